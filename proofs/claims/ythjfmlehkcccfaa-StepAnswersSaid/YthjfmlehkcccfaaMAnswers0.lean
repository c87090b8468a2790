import Derived.Test.YthjfmlehkcccfaaWWords
import Derived.Laws.Tables
import Derived.Laws.Rows
import Derived.WalkKit
import Derived.Test.YthjfmlehkcccfaaWMore
import Derived.Deep.MidRow
import Derived.Test.YthjfmlehkcccfaaWGuard
import Derived.Test.YthjfmlehkcccfaaProg
import Derived.Below
import Derived.Deep.Draws
import Derived.Deep.AppendLies
import Derived.Maps.AppendAt
import Derived.OwnWalk
import Derived.Laws.BytesArg
import Derived.Laws.MakeOwn
import Derived.Laws.OwnMore
import Derived.Deep.OwnRows
import Derived.Tactics
import Derived.Lib.ConvBytes
import Derived.Laws.Slices
import Derived.KernelRfl
import Derived.RowKit3
import Derived.Deep.LoopGhost
import Derived.Deep.QuietTactic
import Derived.BigQuiet
import Derived.WideLaws
import Derived.Deep.DeepCutAuto
import Derived.Deep.CutBlock
import Derived.Deep.RegionHeld3
import Derived.Lib.AppendStr
import Derived.ArgAppend
import Derived.Laws.IdiomCopy
import Derived.OrdersHeld
import Derived.Laws.BitsLemmas
import Derived.RowKit
import Derived.Test.YthjfmlehkcccfaaWLast
import Derived.Test.YthjfmlehkcccfaaWTab
import Derived.Test.YthjfmlehkcccfaaWFour
import Derived.Test.YthjfmlehkcccfaaWQPut
import Derived.Test.YthjfmlehkcccfaaWApart
import Derived.Test.YthjfmlehkcccfaaWArr
import Derived.Test.YthjfmlehkcccfaaWZeros
import Derived.Test.YthjfmlehkcccfaaWFoot
import Derived.Test.YthjfmlehkcccfaaWKept
import Derived.Test.YthjfmlehkcccfaaWShare
import Derived.Test.YthjfmlehkcccfaaWN
import Derived.Test.YthjfmlehkcccfaaWFootNe
import Derived.Test.YthjfmlehkcccfaaWAt
import Derived.Test.YthjfmlehkcccfaaWEqStruct
import Derived.Test.YthjfmlehkcccfaaWRepsOne
import Derived.Test.YthjfmlehkcccfaaWInv
import Derived.Test.YthjfmlehkcccfaaWInvWords
import Derived.Test.YthjfmlehkcccfaaWNEv
import Derived.WalkSpells
import Derived.Lib.SliceRun
import Derived.Lib.Hide
import Derived.IntWalk
import Derived.WalkLawsBesides
import Derived.Laws.CopyOwn
import Derived.Outline
import Derived.RegionTactic
import Derived.ChangeAlike
section
/-
  A whole struct stored into a variable of its own, as one event: the world gets a letter.
-/
namespace Go.Proofs.Ythjfmlehkcccfaa
open Go.RowKit Go.Proofs.YthjfmlehkcccfaaW.PrintWords
section
variable {P : Program} {ops : Array Oper} {rest : List Oper} {o : Oper} {a : Act} {Q : Exit → Act → World → Prop}
theorem keepBut_setRow (W : World) (g : Nat) (cs : Array Value) : KeepBut W (W.setRow g cs) g none :=
  ⟨Nat.le_of_eq (size_setRow W g cs).symm, fun i _ hi _ => setRow_other W g i cs hi⟩
theorem below_setRow' {B : Nat} {w W : World} (h : Below B w W) {g : Nat} (hg : B ≤ g) (cs : Array Value) : Below B w (W.setRow g cs) :=
  ⟨h.os, h.tape, h.output, by rw [size_setRow]; exact h.size, fun i hi => by rw [setRow_other W g i cs (by omega)]; exact h.block i hi⟩
theorem row_event {W : World} (hgd : o.guard = none) {t : TypeId} {p : Tmp} {v : Operand} (ho : o.op = .store t (.tmp p) v) (hN : o.dst = none) (g : Nat) {tb : TypeId} (old cs : Array Value)
    (hp : a.eval (.tmp p) = .pointer (some ⟨g, 0, none⟩)) (hv : a.eval v = .agg cs) (hb : W.heap[g]? = some (.cells old tb (0, 0))) (hi : (P.info? t).map (·.size) = some cs.size) (hs : old.size = cs.size) (h1 : cs.all (·.oneCell') = true)
    (h : ∀ w', w'.heap[g]? = some (.cells cs tb (0, 0)) → KeepBut W w' g none → (∀ w0 : World, Below w0.heap.size w0 W → w0.heap.size ≤ g → Below w0.heap.size w0 w') → wpList P ops Q rest a w') : wpList P ops Q (o :: rest) a W := by
  refine wpList_store_row hgd t (.tmp p) v ho g cs hp hv tb old hb hi hs h1 ?_
  rw [hN]
  exact h _ (setRow_heap _ _ _ _ _ _ hb) (keepBut_setRow W g cs) (fun w0 hB hg => below_setRow' hB hg cs)
/-- A cell that is loaded. -/
theorem load_event {W : World} (hgd : o.guard = none) {N : Tmp} (_hd : o.dst = some N) {t : TypeId} {p : Tmp} (ho : o.op = .load t (.tmp p)) (ad : Addr) (v : Value)
    (hp : a.eval (.tmp p) = .pointer (some ad)) (hna : ∀ w, (isAgg t).run P w = .ok false w) (hc : W.cell? ad = some v)
    (h : wpList P ops Q rest (a.put o.dst v) W) : wpList P ops Q (o :: rest) a W := by
  refine Kd.event_run (v := v) (w1 := W) hgd ?_ h
  have hl : (loadVar t ad).run P W = .ok v W := by
    unfold loadVar
    rw [Sem.run_bind, hna W]
    show (load ad).run P W = _
    rw [run_load, hc]
  unfold execOp
  simp only [ho, hp, Instr.loadAt, Instr.sureAddr, Sem.run_bind, Sem.run_pure, Result.andThen_ok, hl]
/-- A cell that is stored. -/
theorem cell_event {W : World} (hgd : o.guard = none) {t : TypeId} {p : Tmp} {v : Operand} (ho : o.op = .store t (.tmp p) v) (hN : o.dst = none) (g j : Nat) {tb : TypeId} (cs : Array Value) (u : Value)
    (hp : a.eval (.tmp p) = .pointer (some ⟨g, j, none⟩)) (hv : a.eval v = u) (hb : W.heap[g]? = some (.cells cs tb (0, 0))) (hj : (cs[j]?).isSome = true) (hi : (P.info? t).map (·.size) = some 1) (h1 : u.oneCell' = true)
    (h : ∀ w', w'.heap[g]? = some (.cells (cs.setIfInBounds j u) tb (0, 0)) → KeepBut W w' g none → (∀ w0 : World, Below w0.heap.size w0 W → w0.heap.size ≤ g → Below w0.heap.size w0 w') → wpList P ops Q rest a w') : wpList P ops Q (o :: rest) a W := by
  refine store_event (w1 := W.setCell ⟨g, j, none⟩ u) hgd ho hN ?_ (fun w' hw => ?_)
  · obtain ⟨z, hz⟩ := Option.isSome_iff_exists.1 hj
    have hc : W.cell? ⟨g, j, none⟩ = some z := (blk_cell hb j).trans hz
    have hf : W.frozen? ⟨g, j, none⟩ = false := blk_frozen hb j
    have hs : (store (⟨g, j, none⟩ : Addr) u).run P W = .ok () (W.setCell ⟨g, j, none⟩ u) := by
      rw [run_store P W _ u _ h1, hc]
      simp [hf]
    have hcells : u.cells = #[u] := by cases u <;> first | rfl | simp [Value.oneCell'] at h1
    have hsv : (storeVar t ⟨g, j, none⟩ u).run P W = .ok () (W.setCell ⟨g, j, none⟩ u) := by
      cases hq : P.info? t with
      | none => simp [hq] at hi
      | some i =>
        have hz : i.size = 1 := by simpa [hq] using hi
        have ha : (⟨g, j, none⟩ : Addr).add 0 = ⟨g, j, none⟩ := by unfold Addr.add; simp
        have hs' : (store ((⟨g, j, none⟩ : Addr).add 0) u).run P W = .ok () (W.setCell ⟨g, j, none⟩ u) := by rw [ha]; exact hs
        simp [storeVar, sizeOf, typeInfo, hq, hcells, hz, storeCells, hs']
    unfold execOp
    simp only [ho, hp, hv, Instr.storeAt, Instr.sureAddr, Sem.run_bind, Sem.run_pure, Result.andThen_ok, hsv]
  · subst hw
    exact h _ (blk_set hb j u) ((KeepBut.refl W g none).set_ j u) (fun w0 hB hg => below_set hB hg)
end
end Go.Proofs.Ythjfmlehkcccfaa
end

section
/-
  A context's cells (its place, sixteen registers, its calls); the memory of a call's own as one record.
-/
set_option linter.unusedVariables false
set_option linter.unusedSimpArgs false
namespace Go.Proofs.Ythjfmlehkcccfaa.Hctx
open Go.RowKit Go.Proofs.YthjfmlehkcccfaaW.PrintWords Go.Proofs.YthjfmlehkcccfaaW.PrintLast Go.Proofs.YthjfmlehkcccfaaW.PrintMore
structure Regs where
  (r0 r1 r2 r3 r4 r5 r6 r7 r8 r9 r10 r11 r12 r13 r14 r15 : Int)
def Regs.get (r : Regs) : Nat → Int
  | 0 => r.r0 | 1 => r.r1 | 2 => r.r2 | 3 => r.r3 | 4 => r.r4 | 5 => r.r5 | 6 => r.r6 | 7 => r.r7
  | 8 => r.r8 | 9 => r.r9 | 10 => r.r10 | 11 => r.r11 | 12 => r.r12 | 13 => r.r13 | 14 => r.r14 | _ => r.r15
def Regs.set (r : Regs) (j : Nat) (v : Int) : Regs := match j with
  | 0 => { r with r0 := v } | 1 => { r with r1 := v } | 2 => { r with r2 := v } | 3 => { r with r3 := v }
  | 4 => { r with r4 := v } | 5 => { r with r5 := v } | 6 => { r with r6 := v } | 7 => { r with r7 := v }
  | 8 => { r with r8 := v } | 9 => { r with r9 := v } | 10 => { r with r10 := v } | 11 => { r with r11 := v }
  | 12 => { r with r12 := v } | 13 => { r with r13 := v } | 14 => { r with r14 := v } | _ => { r with r15 := v }
def ctx (pc : Int) (r : Regs) (v : Value) : Array Value :=
  #[.int .i64 pc, .int .i64 r.r0, .int .i64 r.r1, .int .i64 r.r2, .int .i64 r.r3, .int .i64 r.r4, .int .i64 r.r5, .int .i64 r.r6, .int .i64 r.r7,
    .int .i64 r.r8, .int .i64 r.r9, .int .i64 r.r10, .int .i64 r.r11, .int .i64 r.r12, .int .i64 r.r13, .int .i64 r.r14, .int .i64 r.r15, v]
theorem ctx_reg (pc : Int) (r : Regs) (v : Value) (j : Nat) (h : j < 16) : (ctx pc r v)[1 + j]? = some (.int .i64 (r.get j)) := match j, h with
  | 0, _ => rfl | 1, _ => rfl | 2, _ => rfl | 3, _ => rfl | 4, _ => rfl | 5, _ => rfl | 6, _ => rfl | 7, _ => rfl
  | 8, _ => rfl | 9, _ => rfl | 10, _ => rfl | 11, _ => rfl | 12, _ => rfl | 13, _ => rfl | 14, _ => rfl | 15, _ => rfl
  | (n + 16), h => absurd h (by omega)
theorem ctx_setreg (pc : Int) (r : Regs) (v : Value) (j : Nat) (h : j < 16) (x : Int) : (ctx pc r v).setIfInBounds (1 + j) (.int .i64 x) = ctx pc (r.set j x) v := match j, h with
  | 0, _ => rfl | 1, _ => rfl | 2, _ => rfl | 3, _ => rfl | 4, _ => rfl | 5, _ => rfl | 6, _ => rfl | 7, _ => rfl
  | 8, _ => rfl | 9, _ => rfl | 10, _ => rfl | 11, _ => rfl | 12, _ => rfl | 13, _ => rfl | 14, _ => rfl | 15, _ => rfl
  | (n + 16), h => absurd h (by omega)
theorem get_set (r : Regs) (i j : Nat) (hi : i < 16) (hj : j < 16) (x : Int) : (r.set i x).get j = if j = i then x else r.get j := by
  match i, hi with
  | 0, _ | 1, _ | 2, _ | 3, _ | 4, _ | 5, _ | 6, _ | 7, _ | 8, _ | 9, _ | 10, _ | 11, _ | 12, _ | 13, _ | 14, _ | 15, _ =>
    match j, hj with
    | 0, _ | 1, _ | 2, _ | 3, _ | 4, _ | 5, _ | 6, _ | 7, _ | 8, _ | 9, _ | 10, _ | 11, _ | 12, _ | 13, _ | 14, _ | 15, _ => rfl
    | (n + 16), h => exact absurd h (by omega)
  | (n + 16), h => exact absurd h (by omega)

/-- The memory of a call's own: blocks known whole, and one row of ints. -/
structure Mem (e : TypeId) (w0 W : World) (l : List (Nat × Array Value × TypeId)) (v : Value) (xs : List Int) : Prop where
  below : Below w0.heap.size w0 W
  blk : ∀ x, x ∈ l → W.heap[x.1]? = some (.cells x.2.1 x.2.2 (0, 0)) ∧ w0.heap.size ≤ x.1 ∧ e ≠ x.2.2
  apart : l.Pairwise (fun x y => x.1 ≠ y.1)
  own : Kd.R (Kd.int .i64) e W w0.heap.size (fun _ => True) v xs
variable {e : TypeId} {w0 W W1 : World} {l : List (Nat × Array Value × TypeId)} {v : Value} {xs : List Int}
theorem Mem.start (e : TypeId) (w0 : World) : Mem e w0 w0 [] (.slice none 0 0) [] := ⟨Below.refl _ _, (fun x hx => by cases hx), List.Pairwise.nil, Kd.R_nil _ _ _ _ _⟩
theorem Mem.at (M : Mem e w0 W l v xs) (i : Nat) {g : Nat} {cs : Array Value} {t : TypeId} (h : l[i]? = some (g, cs, t)) : W.heap[g]? = some (.cells cs t (0, 0)) :=
  (M.blk _ (List.mem_of_getElem? h)).1
theorem Mem.ge (M : Mem e w0 W l v xs) (i : Nat) {g : Nat} {cs : Array Value} {t : TypeId} (h : l[i]? = some (g, cs, t)) : w0.heap.size ≤ g :=
  (M.blk _ (List.mem_of_getElem? h)).2.1
theorem Mem.ne (M : Mem e w0 W l v xs) (i j : Nat) (hij : i < j) {g g' : Nat} {cs cs' : Array Value} {t t' : TypeId} (h : l[i]? = some (g, cs, t)) (h' : l[j]? = some (g', cs', t')) : g ≠ g' := by
  have hi := (List.getElem?_eq_some_iff.1 h)
  have hj := (List.getElem?_eq_some_iff.1 h')
  have := List.pairwise_iff_getElem.1 M.apart i j hi.1 hj.1 hij
  rw [hi.2, hj.2] at this
  exact this
theorem Mem.call (M : Mem e w0 W l v xs) (hb : Below W.heap.size W W1) : Mem e w0 W1 l v xs :=
  ⟨below_step M.below hb, fun x hx => ⟨blk_below (M.blk x hx).1 hb, (M.blk x hx).2⟩, M.apart, Kd.R_below M.own hb⟩
theorem Mem.drewN (M : Mem e w0 W l v xs) (n : Nat) : Mem e w0 (W.drewN n) l v xs :=
  ⟨pw_below_drewN M.below n, fun x hx => ⟨blk_drewN (M.blk x hx).1 n, (M.blk x hx).2⟩, M.apart, Kd.R_drewN M.own n⟩
theorem Mem.box (M : Mem e w0 W l v xs) {g : Nat} {cs : Array Value} {t : TypeId} (hg : g = W.heap.size) (hbox : W1.heap[g]? = some (.cells cs t (0, 0))) (hb : Below W.heap.size W W1) (ht : e ≠ t) : Mem e w0 W1 (l ++ [(g, cs, t)]) v xs := by
  have M1 := M.call hb
  refine ⟨M1.below, fun x hx => ?_, ?_, M1.own⟩
  · rcases List.mem_append.1 hx with h | h
    · exact M1.blk x h
    · rw [List.mem_singleton] at h; subst h
      exact ⟨hbox, by rw [hg]; exact below_size M.below, ht⟩
  · refine List.pairwise_append.2 ⟨M1.apart, List.pairwise_singleton _ _, fun x hx y hy => ?_⟩
    rw [List.mem_singleton] at hy; subst hy
    have := blk_lt (M.blk x hx).1
    show x.1 ≠ g
    omega
theorem Mem.keep (M : Mem e w0 W l v xs) (i : Nat) {g : Nat} {cs cs' : Array Value} {t : TypeId} (h : l[i]? = some (g, cs, t)) (hn : W1.heap[g]? = some (.cells cs' t (0, 0))) (hk : KeepBut W W1 g none) (hb : Below w0.heap.size w0 W1) : Mem e w0 W1 (l.set i (g, cs', t)) v xs := by
  have hi := List.getElem?_eq_some_iff.1 h
  have ht := (M.blk _ (List.mem_of_getElem? h))
  refine ⟨hb, fun x hx => ?_, ?_, ?_⟩
  · obtain ⟨j, hj⟩ := List.mem_iff_getElem?.1 hx
    rw [List.getElem?_set] at hj
    by_cases hij : i = j
    · subst hij
      rw [if_pos rfl, if_pos hi.1] at hj
      obtain rfl := Option.some.inj hj
      exact ⟨hn, ht.2⟩
    · rw [if_neg hij] at hj
      have hxl := List.mem_of_getElem? hj
      refine ⟨hk.blk (M.blk x hxl).1 ?_ (by simp), (M.blk x hxl).2⟩
      rcases Nat.lt_or_gt_of_ne hij with hlt | hlt
      · exact (M.ne i j hlt h (g' := x.1) (cs' := x.2.1) (t' := x.2.2) hj).symm
      · exact M.ne j i hlt (g := x.1) (cs := x.2.1) (t := x.2.2) hj h
  · rw [List.pairwise_iff_getElem]
    intro a b ha hb' hab
    rw [List.length_set] at ha hb'
    have := List.pairwise_iff_getElem.1 M.apart a b ha hb' hab
    rw [List.getElem_set, List.getElem_set]
    by_cases h1 : i = a
    · subst h1
      rw [if_pos rfl, if_neg (by omega)]
      rw [hi.2] at this
      exact this
    · rw [if_neg h1]
      by_cases h2 : i = b
      · subst h2
        rw [if_pos rfl]
        rw [hi.2] at this
        exact this
      · rw [if_neg h2]; exact this
  · exact Kd.R_mono (Kd.R_keep (Kd.R_types M.own ht.1 (fun q hq => by
      have : q = e := by simpa [Kd.int, Kd.scalar] using hq
      subst this; exact ht.2.2)) hk (fun _ h_ => h_.2)) (fun _ h_ => h_.1)
theorem Mem.set (M : Mem e w0 W l v xs) (i : Nat) {g : Nat} {cs : Array Value} {t : TypeId} (h : l[i]? = some (g, cs, t)) (j : Nat) (u : Value) : Mem e w0 (W.setCell ⟨g, j, none⟩ u) (l.set i (g, cs.setIfInBounds j u, t)) v xs :=
  M.keep i h (blk_set (M.at i h) j u) ((KeepBut.refl W g none).set_ j u) (below_set M.below (M.ge i h))
theorem Mem.row (M : Mem e w0 W l v xs) (hb : Below W.heap.size W W1) {v1 : Value} {ys : List Int} (h : Kd.R (Kd.int .i64) e W1 W.heap.size (fun _ => True) v1 ys) : Mem e w0 W1 l v1 ys :=
  ⟨below_step M.below hb, fun x hx => ⟨blk_below (M.blk x hx).1 hb, (M.blk x hx).2⟩, M.apart, Kd.R_lower h (below_size M.below)⟩
theorem Mem.cell (M : Mem e w0 W l v xs) (i : Nat) {g : Nat} {cs : Array Value} {t : TypeId} (h : l[i]? = some (g, cs, t)) (j : Nat) : W.cell? ⟨g, j, none⟩ = cs[j]? := blk_cell (M.at i h) j
theorem Mem.free (M : Mem e w0 W l v xs) (i : Nat) {g : Nat} {cs : Array Value} {t : TypeId} (h : l[i]? = some (g, cs, t)) (j : Nat) : W.frozen? ⟨g, j, none⟩ = false := blk_frozen (M.at i h) j
theorem Mem.range (M : Mem e w0 W l v xs) (i : Nat) {g : Nat} {cs : Array Value} {t : TypeId} (h : l[i]? = some (g, cs, t)) : W.rangeAt g 0 cs.toList := fun j u hu => by
  rw [Nat.zero_add, M.cell i h j]; simpa using hu
theorem Mem.there (M : Mem e w0 W l v xs) (i : Nat) {g : Nat} {cs : Array Value} {t : TypeId} (h : l[i]? = some (g, cs, t)) : W.there g 0 cs.size := fun j hj => by
  rw [Nat.zero_add, M.cell i h j, M.free i h j]
  exact ⟨by rw [Array.getElem?_eq_getElem hj]; rfl, rfl⟩
theorem setCells_keep (g : Nat) : ∀ (us : List Value) (o : Nat) (W : World), KeepBut W (W.setCells g o us) g none
  | [], _, W => KeepBut.refl W g none
  | u :: us, o, W => by
    rw [World.setCells]
    exact KeepBut.trans ((KeepBut.refl W g none).set_ o u) (setCells_keep g us (o + 1) _) (.inl rfl)
theorem setCells_below {B : Nat} {w : World} (g : Nat) (hg : B ≤ g) : ∀ (us : List Value) (o : Nat) (W : World), Below B w W → Below B w (W.setCells g o us)
  | [], _, W, h => h
  | u :: us, o, W, h => by
    rw [World.setCells]
    exact setCells_below g hg us (o + 1) _ (h.setCell hg _)
theorem setCells_blk (g : Nat) {t : TypeId} : ∀ (us pre suf : List Value) (W : World), W.heap[g]? = some (.cells (pre ++ suf).toArray t (0, 0)) → us.length = suf.length → (W.setCells g pre.length us).heap[g]? = some (.cells (pre ++ us).toArray t (0, 0))
  | [], pre, suf, W, h, hl => by
    obtain rfl : suf = [] := List.length_eq_zero_iff.1 (by simpa using hl.symm)
    exact h
  | u :: us, pre, suf, W, h, hl => by
    obtain ⟨s, suf, rfl⟩ : ∃ s r, suf = s :: r := by cases suf with | nil => simp at hl | cons s r => exact ⟨s, r, rfl⟩
    rw [World.setCells]
    have h1 := blk_set h pre.length u
    have e : (pre ++ s :: suf).toArray.setIfInBounds pre.length u = ((pre ++ [u]) ++ suf).toArray := by simp
    rw [e] at h1
    have := setCells_blk g us (pre ++ [u]) suf _ h1 (by simpa using hl)
    simpa using this
theorem Mem.cells (M : Mem e w0 W l v xs) (i : Nat) {g : Nat} {cs : Array Value} {t : TypeId} (h : l[i]? = some (g, cs, t)) (us : Array Value) (hl : us.size = cs.size) : Mem e w0 (W.setCells g 0 us.toList) (l.set i (g, us, t)) v xs := by
  refine M.keep i h ?_ (setCells_keep g us.toList 0 W) (setCells_below g (M.ge i h) us.toList 0 W M.below)
  have := setCells_blk g (t := t) us.toList [] cs.toList W (by simpa using M.at i h) (by simpa using hl)
  simpa using this
theorem Mem.append (M : Mem e w0 W l v xs) (hb : Below w0.heap.size w0 W1) (hg : W.grownBy W1 v.ownBlock) {v1 : Value} {ys : List Int} (h : Kd.R (Kd.int .i64) e W1 w0.heap.size (fun _ => True) v1 ys) : Mem e w0 W1 l v1 ys := by
  refine ⟨hb, fun x hx => ?_, M.apart, h⟩
  have hx' := M.blk x hx
  refine ⟨blk_grown hx'.1 hg (fun he => ?_), hx'.2⟩
  exact ((Kd.R_types M.own hx'.1 (fun q hq => by
      have : q = e := by simpa [Kd.int, Kd.scalar] using hq
      subst this; exact hx'.2.2)).1 x.1 he.symm).2 rfl
theorem Mem.own_to (M : Mem e w0 W l v xs) {v1 : Value} {ys : List Int} (h : Kd.R (Kd.int .i64) e W w0.heap.size (fun _ => True) v1 ys) : Mem e w0 W l v1 ys := ⟨M.below, M.blk, M.apart, h⟩
theorem Mem.drawn (M : Mem e w0 W l v xs) (h : Drawn0 W W1) : Mem e w0 W1 l v xs := by
  obtain ⟨n, rfl⟩ := h
  exact M.drewN n
theorem Mem.drew (M : Mem e w0 W l v xs) : Mem e w0 W.drew l v xs :=
  ⟨M.below.drew, fun x hx => ⟨blk_drew (M.blk x hx).1, (M.blk x hx).2⟩, M.apart, Kd.R_drew M.own⟩
end Go.Proofs.Ythjfmlehkcccfaa.Hctx
end

section
/-
  The events of a walk over a call's own memory (boxes known whole), one short lemma each.
-/
set_option linter.unusedVariables false
set_option linter.unusedSimpArgs false
namespace Go.Proofs.Ythjfmlehkcccfaa.Hctx
open Go.RowKit Go.Proofs.YthjfmlehkcccfaaW.PrintWords Go.Proofs.YthjfmlehkcccfaaW.PrintLast Go.Proofs.YthjfmlehkcccfaaW.PrintMore
section
variable {P : Program} {ops : Array Oper} {rest : List Oper} {o : Oper} {a : Act} {Q : Exit → Act → World → Prop} {e : TypeId} {w0 W : World} {l : List (Nat × Array Value × TypeId)} {v : Value} {xs : List Int}
/-- A box (a variable in memory). -/
theorem eB (M : Aside0 (Mem e w0 W l v xs)) (N : Tmp) (cs : Array Value) (t : TypeId)
    (h : ∀ g w1, Aside0 (Mem e w0 w1 (l ++ [(g, cs, t)]) v xs) → wpList P ops Q rest (a.put o.dst (.pointer (some ⟨g, 0, none⟩))) w1)
    (hd : o.dst = some N := by with_reducible rfl) (hgd : o.guard = none := by with_reducible rfl) (he : e ≠ t := by decide)
    (hr : (execOp a.eval o).run P W = .ok (.value (.pointer (some ⟨W.heap.size, 0, none⟩))) (W.alloc (.cells cs t (0, 0))) := by first | (go_simp; done) | (go_simp; rfl)) :
    wpList P ops Q (o :: rest) a W :=
  box_event hgd hd hr fun g hg w1 hbox hb => h g w1 ⟨Mem.box M.out hg hbox hb he⟩
/-- A whole box is loaded. -/
theorem eL {d : TypeDesc} {ty : TypeId} (M : Aside0 (Mem e w0 W l v xs)) (N : Tmp) (i : Nat) (hu : P.underlying ty = some d) {g : Nat} {cs : Array Value} {tb : TypeId} {p : Tmp}
    (h : wpList P ops Q rest (a.put o.dst (.agg cs)) W)
    (hd : o.dst = some N := by with_reducible rfl) (hgd : o.guard = none := by with_reducible rfl) (ho : o.op = .load ty (.tmp p) := by with_reducible rfl)
    (hi : l[i]? = some (g, cs, tb) := by rfl) (hx : a.eval (.tmp p) = .pointer (some ⟨g, 0, none⟩) := by rfl)
    (hdd : (match d with | .struct _ | .array _ _ => true | _ => false) = true := by rfl) (hs : (P.info? ty).map (·.size) = some cs.size := by kernel_rfl) :
    wpList P ops Q (o :: rest) a W :=
  wpList_load_row hgd ty (.tmp p) ho g hx tb cs (0, 0) d (M.out.at i hi) hu hdd hs h
/-- A cell of a box is loaded. -/
theorem eC (M : Aside0 (Mem e w0 W l v xs)) (N : Tmp) (i j : Nat) (u : Value) {g : Nat} {cs : Array Value} {tb t : TypeId} {p : Tmp}
    (h : wpList P ops Q rest (a.put o.dst u) W)
    (hd : o.dst = some N := by with_reducible rfl) (hgd : o.guard = none := by with_reducible rfl) (ho : o.op = .load t (.tmp p) := by with_reducible rfl)
    (hi : l[i]? = some (g, cs, tb) := by rfl) (hv : cs[j]? = some u := by rfl) (hx : a.eval (.tmp p) = .pointer (some ⟨g, j, none⟩) := by first | rfl | (go_simp; done) | (go_simp; rfl))
    (hna : ∀ w, (isAgg t).run P w = .ok false w := by intro _; kernel_rfl) :
    wpList P ops Q (o :: rest) a W :=
  load_event hgd hd ho ⟨g, j, none⟩ u hx hna ((M.out.cell i hi j).trans hv) h
/-- A whole box is stored. -/
theorem eR (M : Aside0 (Mem e w0 W l v xs)) (t : TypeId) (p : Tmp) (i : Nat) (new : Array Value) {g : Nat} {old : Array Value} {tb : TypeId} {x : Operand}
    (h : ∀ w', Aside0 (Mem e w0 w' (l.set i (g, new, tb)) v xs) → wpList P ops Q rest a w')
    (ho : o.op = .store t (.tmp p) x := by with_reducible rfl) (hn : o.dst = none := by with_reducible rfl) (hgd : o.guard = none := by with_reducible rfl)
    (hi : l[i]? = some (g, old, tb) := by rfl) (hx : a.eval (.tmp p) = .pointer (some ⟨g, 0, none⟩) := by rfl) (hv : a.eval x = .agg new := by first | rfl | (go_simp; done) | (go_simp; rfl))
    (hs : (P.info? t).map (·.size) = some new.size := by kernel_rfl) (hso : old.size = new.size := by rfl) (h1 : new.all (·.oneCell') = true := by kernel_rfl) :
    wpList P ops Q (o :: rest) a W :=
  row_event hgd ho hn g old new hx hv (M.out.at i hi) hs hso h1 fun w' hn' hk hb => h w' ⟨Mem.keep M.out i hi hn' hk (hb w0 M.out.below (M.out.ge i hi))⟩
/-- A cell of a box is stored. -/
theorem eS (M : Aside0 (Mem e w0 W l v xs)) (t : TypeId) (p : Tmp) (i j : Nat) (u : Value) (new : Array Value) {g : Nat} {cs : Array Value} {tb : TypeId} {x : Operand}
    (h : ∀ w', Aside0 (Mem e w0 w' (l.set i (g, new, tb)) v xs) → wpList P ops Q rest a w')
    (ho : o.op = .store t (.tmp p) x := by with_reducible rfl) (hn : o.dst = none := by with_reducible rfl) (hgd : o.guard = none := by with_reducible rfl)
    (hi : l[i]? = some (g, cs, tb) := by rfl) (hx : a.eval (.tmp p) = .pointer (some ⟨g, j, none⟩) := by first | rfl | (go_simp; done) | (go_simp; rfl)) (hv : a.eval x = u := by first | rfl | (go_simp; done) | (go_simp; rfl))
    (hj : cs[j]?.isSome = true := by rfl) (hs : (P.info? t).map (·.size) = some 1 := by kernel_rfl) (h1 : u.oneCell' = true := by rfl) (hnew : cs.setIfInBounds j u = new := by rfl) :
    wpList P ops Q (o :: rest) a W :=
  cell_event hgd ho hn g j cs u hx hv (M.out.at i hi) hj hs h1 fun w' hn' hk hb => h w' ⟨Mem.keep M.out i hi (hnew ▸ hn') hk (hb w0 M.out.below (M.out.ge i hi))⟩
/-- A cell of known content is loaded (an element of a row). -/
theorem eX (N : Tmp) {ad : Addr} {u : Value} (hc : W.cell? ad = some u) {t : TypeId} {p : Tmp}
    (h : wpList P ops Q rest (a.put o.dst u) W)
    (hd : o.dst = some N := by with_reducible rfl) (hgd : o.guard = none := by with_reducible rfl) (ho : o.op = .load t (.tmp p) := by with_reducible rfl)
    (hx : a.eval (.tmp p) = .pointer (some ad) := by first | rfl | (go_simp; done) | (go_simp; rfl)) (hna : ∀ w, (isAgg t).run P w = .ok false w := by intro _; kernel_rfl) :
    wpList P ops Q (o :: rest) a W :=
  load_event hgd hd ho ad u hx hna hc h
/-- A register of a context. -/
theorem ctx_some (pc : Int) (r : Regs) (u : Value) (j : Nat) (h : j < 16) : ((ctx pc r u)[1 + j]?).isSome = true := by rw [ctx_reg pc r u j h]; rfl
end
end Go.Proofs.Ythjfmlehkcccfaa.Hctx
end

section
-- laid by a program of this session (wip/gp.sh)
namespace Go.Proofs.Ythjfmlehkcccfaa.GA
open Go.RowKit Go.Proofs.YthjfmlehkcccfaaW.PrintWords Go.Proofs.YthjfmlehkcccfaaW.PrintLast Go.Proofs.YthjfmlehkcccfaaW.PrintMore
attribute [local go_sem] max2_int min2_int max_two min_two max_three min_three max_four min_four   -- for this text's walks alone
set_option linter.unusedVariables false
set_option linter.unusedSimpArgs false



def errW : Option Int → Value
  | none => .nilIface
  | some c => .iface 0 (.int .i64 c)
theorem errW_none : errW none = .nilIface := rfl
theorem errW_some (c : Int) : errW (some c) = .iface 0 (.int .i64 c) := rfl

theorem info3 : (Try.prog.info? 3).map (fun i => (i.zero, i.size, i.bytes)) = some (some (.int .i64 0), 1, 8) := by kernel_rfl
-- the values' own types
/-! #### struct type 102 -/
structure S102 where
  f0 : ByteArray
  f1 : Int
  f2 : Int
  f3 : ByteArray
  f4 : ByteArray
def z102 : S102 := ⟨(⟨#[]⟩ : ByteArray), (0 : Int), (0 : Int), (⟨#[]⟩ : ByteArray), (⟨#[]⟩ : ByteArray)⟩
def k102 : Kd S102 := Kd.iso (Kd.pair Kd.string (Kd.pair (Kd.int .i64) (Kd.pair (Kd.int .i64) (Kd.pair Kd.string Kd.string)))) (fun x : S102 => (x.f0, x.f1, x.f2, x.f3, x.f4))
theorem k102_open {w : World} {x : S102} {cs : List Value} (h : k102.K w x cs) : cs = [.string x.f0, .int .i64 x.f1, .int .i64 x.f2, .string x.f3, .string x.f4] := by
  obtain ⟨_, _, rfl, rfl, ⟨_, _, rfl, rfl, ⟨_, _, rfl, rfl, ⟨_, _, rfl, rfl, rfl⟩⟩⟩⟩ := h
  exact rfl
theorem k102_openM {w : World} {base : Nat} {ok : Nat → Prop} {x : S102} {cs : List Value} (h : k102.M w base ok x cs) : cs = [.string x.f0, .int .i64 x.f1, .int .i64 x.f2, .string x.f3, .string x.f4] := by
  obtain ⟨_, _, rfl, rfl, ⟨_, _, rfl, rfl, ⟨_, _, rfl, rfl, ⟨_, _, rfl, rfl, rfl⟩⟩⟩⟩ := h
  exact rfl
theorem k102_mk (w : World) (x : S102)  : k102.K w x [.string x.f0, .int .i64 x.f1, .int .i64 x.f2, .string x.f3, .string x.f4] := ⟨[.string x.f0], [.int .i64 x.f1, .int .i64 x.f2, .string x.f3, .string x.f4], rfl, rfl, ⟨[.int .i64 x.f1], [.int .i64 x.f2, .string x.f3, .string x.f4], rfl, rfl, ⟨[.int .i64 x.f2], [.string x.f3, .string x.f4], rfl, rfl, ⟨[.string x.f3], [.string x.f4], rfl, rfl, rfl⟩⟩⟩⟩
theorem k102_mkM (w : World) (base : Nat) (ok : Nat → Prop) (x : S102)  : k102.M w base ok x [.string x.f0, .int .i64 x.f1, .int .i64 x.f2, .string x.f3, .string x.f4] := ⟨[.string x.f0], [.int .i64 x.f1, .int .i64 x.f2, .string x.f3, .string x.f4], rfl, rfl, ⟨[.int .i64 x.f1], [.int .i64 x.f2, .string x.f3, .string x.f4], rfl, rfl, ⟨[.int .i64 x.f2], [.string x.f3, .string x.f4], rfl, rfl, ⟨[.string x.f3], [.string x.f4], rfl, rfl, rfl⟩⟩⟩⟩
def rd_T102 (xs : List S102) (i : Int) : S102 := xs.getD i.toNat z102
theorem at_T102 {w : World} {A : Option Addr} {n : Nat} {xs : List S102} (h : Kd.C k102 w A n xs) (i : Int) (h0 : 0 ≤ i) (h1 : i < n) : ∃ ad , A = some ad ∧ w.cell? (ad.add (i.toNat * 5)) = some (.string (rd_T102 xs i).f0) ∧ w.cell? ⟨(ad.add (i.toNat * 5)).block, (ad.add (i.toNat * 5)).off + 1, none⟩ = some (.int .i64 (rd_T102 xs i).f1) ∧ w.cell? ⟨(ad.add (i.toNat * 5)).block, (ad.add (i.toNat * 5)).off + 2, none⟩ = some (.int .i64 (rd_T102 xs i).f2) ∧ w.cell? ⟨(ad.add (i.toNat * 5)).block, (ad.add (i.toNat * 5)).off + 3, none⟩ = some (.string (rd_T102 xs i).f3) ∧ w.cell? ⟨(ad.add (i.toNat * 5)).block, (ad.add (i.toNat * 5)).off + 4, none⟩ = some (.string (rd_T102 xs i).f4) := by
  obtain ⟨ad, c, e, _, hK, hc0⟩ := Kd.C_get h z102 i h0 h1
  have hc : ∀ j u, c[j]? = some u → w.cell? (ad.add (i.toNat * 5 + j)) = some u := hc0
  obtain rfl := k102_open hK
  exact ⟨ad, e, hc 0 _ rfl, by rw [← add_field _ _ 1 (by omega)]; exact hc 1 _ rfl, by rw [← add_field _ _ 2 (by omega)]; exact hc 2 _ rfl, by rw [← add_field _ _ 3 (by omega)]; exact hc 3 _ rfl, by rw [← add_field _ _ 4 (by omega)]; exact hc 4 _ rfl⟩

/-! #### struct type 37 -/
structure S37 where
  f0 : Int
  f1 : Int
  f2 : Int
  f3 : Int
  f4 : Int
def z37 : S37 := ⟨(0 : Int), (0 : Int), (0 : Int), (0 : Int), (0 : Int)⟩
def k37 : Kd S37 := Kd.iso (Kd.pair (Kd.int .i64) (Kd.pair (Kd.int .i64) (Kd.pair (Kd.int .i64) (Kd.pair (Kd.int .i64) (Kd.int .i64))))) (fun x : S37 => (x.f0, x.f1, x.f2, x.f3, x.f4))
theorem k37_open {w : World} {x : S37} {cs : List Value} (h : k37.K w x cs) : cs = [.int .i64 x.f0, .int .i64 x.f1, .int .i64 x.f2, .int .i64 x.f3, .int .i64 x.f4] := by
  obtain ⟨_, _, rfl, rfl, ⟨_, _, rfl, rfl, ⟨_, _, rfl, rfl, ⟨_, _, rfl, rfl, rfl⟩⟩⟩⟩ := h
  exact rfl
theorem k37_openM {w : World} {base : Nat} {ok : Nat → Prop} {x : S37} {cs : List Value} (h : k37.M w base ok x cs) : cs = [.int .i64 x.f0, .int .i64 x.f1, .int .i64 x.f2, .int .i64 x.f3, .int .i64 x.f4] := by
  obtain ⟨_, _, rfl, rfl, ⟨_, _, rfl, rfl, ⟨_, _, rfl, rfl, ⟨_, _, rfl, rfl, rfl⟩⟩⟩⟩ := h
  exact rfl
theorem k37_mk (w : World) (x : S37)  : k37.K w x [.int .i64 x.f0, .int .i64 x.f1, .int .i64 x.f2, .int .i64 x.f3, .int .i64 x.f4] := ⟨[.int .i64 x.f0], [.int .i64 x.f1, .int .i64 x.f2, .int .i64 x.f3, .int .i64 x.f4], rfl, rfl, ⟨[.int .i64 x.f1], [.int .i64 x.f2, .int .i64 x.f3, .int .i64 x.f4], rfl, rfl, ⟨[.int .i64 x.f2], [.int .i64 x.f3, .int .i64 x.f4], rfl, rfl, ⟨[.int .i64 x.f3], [.int .i64 x.f4], rfl, rfl, rfl⟩⟩⟩⟩
theorem k37_mkM (w : World) (base : Nat) (ok : Nat → Prop) (x : S37)  : k37.M w base ok x [.int .i64 x.f0, .int .i64 x.f1, .int .i64 x.f2, .int .i64 x.f3, .int .i64 x.f4] := ⟨[.int .i64 x.f0], [.int .i64 x.f1, .int .i64 x.f2, .int .i64 x.f3, .int .i64 x.f4], rfl, rfl, ⟨[.int .i64 x.f1], [.int .i64 x.f2, .int .i64 x.f3, .int .i64 x.f4], rfl, rfl, ⟨[.int .i64 x.f2], [.int .i64 x.f3, .int .i64 x.f4], rfl, rfl, ⟨[.int .i64 x.f3], [.int .i64 x.f4], rfl, rfl, rfl⟩⟩⟩⟩
def rd_T37 (xs : List S37) (i : Int) : S37 := xs.getD i.toNat z37
theorem at_T37 {w : World} {A : Option Addr} {n : Nat} {xs : List S37} (h : Kd.C k37 w A n xs) (i : Int) (h0 : 0 ≤ i) (h1 : i < n) : ∃ ad , A = some ad ∧ w.cell? (ad.add (i.toNat * 5)) = some (.int .i64 (rd_T37 xs i).f0) ∧ w.cell? ⟨(ad.add (i.toNat * 5)).block, (ad.add (i.toNat * 5)).off + 1, none⟩ = some (.int .i64 (rd_T37 xs i).f1) ∧ w.cell? ⟨(ad.add (i.toNat * 5)).block, (ad.add (i.toNat * 5)).off + 2, none⟩ = some (.int .i64 (rd_T37 xs i).f2) ∧ w.cell? ⟨(ad.add (i.toNat * 5)).block, (ad.add (i.toNat * 5)).off + 3, none⟩ = some (.int .i64 (rd_T37 xs i).f3) ∧ w.cell? ⟨(ad.add (i.toNat * 5)).block, (ad.add (i.toNat * 5)).off + 4, none⟩ = some (.int .i64 (rd_T37 xs i).f4) := by
  obtain ⟨ad, c, e, _, hK, hc0⟩ := Kd.C_get h z37 i h0 h1
  have hc : ∀ j u, c[j]? = some u → w.cell? (ad.add (i.toNat * 5 + j)) = some u := hc0
  obtain rfl := k37_open hK
  exact ⟨ad, e, hc 0 _ rfl, by rw [← add_field _ _ 1 (by omega)]; exact hc 1 _ rfl, by rw [← add_field _ _ 2 (by omega)]; exact hc 2 _ rfl, by rw [← add_field _ _ 3 (by omega)]; exact hc 3 _ rfl, by rw [← add_field _ _ 4 (by omega)]; exact hc 4 _ rfl⟩

/-! #### struct type 75 -/
structure S75 where
  f0 : Int
  f1 : Int
def z75 : S75 := ⟨(0 : Int), (0 : Int)⟩
def k75 : Kd S75 := Kd.iso (Kd.pair (Kd.int .i64) (Kd.int .i64)) (fun x : S75 => (x.f0, x.f1))
theorem k75_open {w : World} {x : S75} {cs : List Value} (h : k75.K w x cs) : cs = [.int .i64 x.f0, .int .i64 x.f1] := by
  obtain ⟨_, _, rfl, rfl, rfl⟩ := h
  exact rfl
theorem k75_openM {w : World} {base : Nat} {ok : Nat → Prop} {x : S75} {cs : List Value} (h : k75.M w base ok x cs) : cs = [.int .i64 x.f0, .int .i64 x.f1] := by
  obtain ⟨_, _, rfl, rfl, rfl⟩ := h
  exact rfl
theorem k75_mk (w : World) (x : S75)  : k75.K w x [.int .i64 x.f0, .int .i64 x.f1] := ⟨[.int .i64 x.f0], [.int .i64 x.f1], rfl, rfl, rfl⟩
theorem k75_mkM (w : World) (base : Nat) (ok : Nat → Prop) (x : S75)  : k75.M w base ok x [.int .i64 x.f0, .int .i64 x.f1] := ⟨[.int .i64 x.f0], [.int .i64 x.f1], rfl, rfl, rfl⟩
def rd_T75 (xs : List S75) (i : Int) : S75 := xs.getD i.toNat z75
theorem at_T75 {w : World} {A : Option Addr} {n : Nat} {xs : List S75} (h : Kd.C k75 w A n xs) (i : Int) (h0 : 0 ≤ i) (h1 : i < n) : ∃ ad , A = some ad ∧ w.cell? (ad.add (i.toNat * 2)) = some (.int .i64 (rd_T75 xs i).f0) ∧ w.cell? ⟨(ad.add (i.toNat * 2)).block, (ad.add (i.toNat * 2)).off + 1, none⟩ = some (.int .i64 (rd_T75 xs i).f1) := by
  obtain ⟨ad, c, e, _, hK, hc0⟩ := Kd.C_get h z75 i h0 h1
  have hc : ∀ j u, c[j]? = some u → w.cell? (ad.add (i.toNat * 2 + j)) = some u := hc0
  obtain rfl := k75_open hK
  exact ⟨ad, e, hc 0 _ rfl, by rw [← add_field _ _ 1 (by omega)]; exact hc 1 _ rfl⟩

/-! #### struct type 106 -/
structure S106 where
  f0 : Bool
  f1 : Int
  f2 : Int
  f3 : Int
def z106 : S106 := ⟨false, (0 : Int), (0 : Int), (0 : Int)⟩
def k106 : Kd S106 := Kd.iso (Kd.pair Kd.bool (Kd.pair (Kd.int .i64) (Kd.pair (Kd.int .i64) (Kd.int .i64)))) (fun x : S106 => (x.f0, x.f1, x.f2, x.f3))
theorem k106_open {w : World} {x : S106} {cs : List Value} (h : k106.K w x cs) : cs = [.bool x.f0, .int .i64 x.f1, .int .i64 x.f2, .int .i64 x.f3] := by
  obtain ⟨_, _, rfl, rfl, ⟨_, _, rfl, rfl, ⟨_, _, rfl, rfl, rfl⟩⟩⟩ := h
  exact rfl
theorem k106_openM {w : World} {base : Nat} {ok : Nat → Prop} {x : S106} {cs : List Value} (h : k106.M w base ok x cs) : cs = [.bool x.f0, .int .i64 x.f1, .int .i64 x.f2, .int .i64 x.f3] := by
  obtain ⟨_, _, rfl, rfl, ⟨_, _, rfl, rfl, ⟨_, _, rfl, rfl, rfl⟩⟩⟩ := h
  exact rfl
theorem k106_mk (w : World) (x : S106)  : k106.K w x [.bool x.f0, .int .i64 x.f1, .int .i64 x.f2, .int .i64 x.f3] := ⟨[.bool x.f0], [.int .i64 x.f1, .int .i64 x.f2, .int .i64 x.f3], rfl, rfl, ⟨[.int .i64 x.f1], [.int .i64 x.f2, .int .i64 x.f3], rfl, rfl, ⟨[.int .i64 x.f2], [.int .i64 x.f3], rfl, rfl, rfl⟩⟩⟩
theorem k106_mkM (w : World) (base : Nat) (ok : Nat → Prop) (x : S106)  : k106.M w base ok x [.bool x.f0, .int .i64 x.f1, .int .i64 x.f2, .int .i64 x.f3] := ⟨[.bool x.f0], [.int .i64 x.f1, .int .i64 x.f2, .int .i64 x.f3], rfl, rfl, ⟨[.int .i64 x.f1], [.int .i64 x.f2, .int .i64 x.f3], rfl, rfl, ⟨[.int .i64 x.f2], [.int .i64 x.f3], rfl, rfl, rfl⟩⟩⟩
def rd_T106 (xs : List S106) (i : Int) : S106 := xs.getD i.toNat z106
theorem at_T106 {w : World} {A : Option Addr} {n : Nat} {xs : List S106} (h : Kd.C k106 w A n xs) (i : Int) (h0 : 0 ≤ i) (h1 : i < n) : ∃ ad , A = some ad ∧ w.cell? (ad.add (i.toNat * 4)) = some (.bool (rd_T106 xs i).f0) ∧ w.cell? ⟨(ad.add (i.toNat * 4)).block, (ad.add (i.toNat * 4)).off + 1, none⟩ = some (.int .i64 (rd_T106 xs i).f1) ∧ w.cell? ⟨(ad.add (i.toNat * 4)).block, (ad.add (i.toNat * 4)).off + 2, none⟩ = some (.int .i64 (rd_T106 xs i).f2) ∧ w.cell? ⟨(ad.add (i.toNat * 4)).block, (ad.add (i.toNat * 4)).off + 3, none⟩ = some (.int .i64 (rd_T106 xs i).f3) := by
  obtain ⟨ad, c, e, _, hK, hc0⟩ := Kd.C_get h z106 i h0 h1
  have hc : ∀ j u, c[j]? = some u → w.cell? (ad.add (i.toNat * 4 + j)) = some u := hc0
  obtain rfl := k106_open hK
  exact ⟨ad, e, hc 0 _ rfl, by rw [← add_field _ _ 1 (by omega)]; exact hc 1 _ rfl, by rw [← add_field _ _ 2 (by omega)]; exact hc 2 _ rfl, by rw [← add_field _ _ 3 (by omega)]; exact hc 3 _ rfl⟩

def rd_L8 (xs : List (List S106)) (i : Int) : (List S106) := xs.getD i.toNat ([] : List S106)
theorem at_L8 {w : World} {A : Option Addr} {n : Nat} {xs : List (List S106)} (h : Kd.C (Kd.slice 106 k106) w A n xs) (i : Int) (h0 : 0 ≤ i) (h1 : i < n) : ∃ ad A0 c0, A = some ad ∧ w.cell? (ad.add i.toNat) = some (.slice A0 (rd_L8 xs i).length c0) ∧ (rd_L8 xs i).length ≤ c0 ∧ k106.C w A0 (rd_L8 xs i).length (rd_L8 xs i) := by
  obtain ⟨ad, c, e, _, hK, hc0⟩ := Kd.C_get h ([] : List S106) i h0 h1
  have hc : ∀ j u, c[j]? = some u → w.cell? (ad.add (i.toNat * 1 + j)) = some u := hc0
  obtain ⟨A0, c0, rfl, l0, g0⟩ := hK
  exact ⟨ad, A0, c0, e, by have hq := hc 0 _ rfl; rwa [Nat.mul_one, Nat.add_zero] at hq, l0, g0⟩

/-! #### struct type 98 -/
structure S98 where
  f0 : (List S106)
  f1 : Bool
def z98 : S98 := ⟨([] : List S106), false⟩
def k98 : Kd S98 := Kd.iso (Kd.pair (Kd.slice 106 k106) Kd.bool) (fun x : S98 => (x.f0, x.f1))
theorem k98_open {w : World} {x : S98} {cs : List Value} (h : k98.K w x cs) : ∃ A0 c0, cs = [.slice A0 x.f0.length c0, .bool x.f1] ∧ x.f0.length ≤ c0 ∧ k106.C w A0 x.f0.length x.f0 := by
  obtain ⟨_, _, rfl, ⟨A0, c0, rfl, l0, g0⟩, rfl⟩ := h
  exact ⟨A0, c0, rfl, l0, g0⟩
theorem k98_openM {w : World} {base : Nat} {ok : Nat → Prop} {x : S98} {cs : List Value} (h : k98.M w base ok x cs) : ∃ v0, cs = [v0, .bool x.f1] ∧ k106.R 106 w base ok v0 x.f0 := by
  obtain ⟨_, _, rfl, ⟨v0, rfl, g0⟩, rfl⟩ := h
  exact ⟨v0, rfl, g0⟩
theorem k98_mk (w : World) (x : S98) {A0 : Option Addr} {c0 : Nat} (l0 : x.f0.length ≤ c0) (g0 : k106.C w A0 x.f0.length x.f0) : k98.K w x [.slice A0 x.f0.length c0, .bool x.f1] := ⟨[.slice A0 x.f0.length c0], [.bool x.f1], rfl, ⟨A0, c0, rfl, l0, g0⟩, rfl⟩
theorem k98_mkM (w : World) (base : Nat) (ok : Nat → Prop) (x : S98) {v0 : Value} (g0 : k106.R 106 w base ok v0 x.f0) : k98.M w base ok x [v0, .bool x.f1] := ⟨[v0], [.bool x.f1], rfl, ⟨v0, rfl, g0⟩, rfl⟩
def rd_T98 (xs : List S98) (i : Int) : S98 := xs.getD i.toNat z98
theorem at_T98 {w : World} {A : Option Addr} {n : Nat} {xs : List S98} (h : Kd.C k98 w A n xs) (i : Int) (h0 : 0 ≤ i) (h1 : i < n) : ∃ ad A0 c0, A = some ad ∧ w.cell? (ad.add (i.toNat * 2)) = some (.slice A0 (rd_T98 xs i).f0.length c0) ∧ w.cell? ⟨(ad.add (i.toNat * 2)).block, (ad.add (i.toNat * 2)).off + 1, none⟩ = some (.bool (rd_T98 xs i).f1) ∧ (rd_T98 xs i).f0.length ≤ c0 ∧ k106.C w A0 (rd_T98 xs i).f0.length (rd_T98 xs i).f0 := by
  obtain ⟨ad, c, e, _, hK, hc0⟩ := Kd.C_get h z98 i h0 h1
  have hc : ∀ j u, c[j]? = some u → w.cell? (ad.add (i.toNat * 2 + j)) = some u := hc0
  obtain ⟨A0, c0, rfl, l0, g0⟩ := k98_open hK
  exact ⟨ad, A0, c0, e, hc 0 _ rfl, by rw [← add_field _ _ 1 (by omega)]; exact hc 1 _ rfl, l0, g0⟩

def rd_L10 (xs : List (List Int)) (i : Int) : (List Int) := xs.getD i.toNat ([] : List Int)
theorem at_L10 {w : World} {A : Option Addr} {n : Nat} {xs : List (List Int)} (h : Kd.C (Kd.slice 3 (Kd.int .i64)) w A n xs) (i : Int) (h0 : 0 ≤ i) (h1 : i < n) : ∃ ad A0 c0, A = some ad ∧ w.cell? (ad.add i.toNat) = some (.slice A0 (rd_L10 xs i).length c0) ∧ (rd_L10 xs i).length ≤ c0 ∧ (Kd.int .i64).C w A0 (rd_L10 xs i).length (rd_L10 xs i) := by
  obtain ⟨ad, c, e, _, hK, hc0⟩ := Kd.C_get h ([] : List Int) i h0 h1
  have hc : ∀ j u, c[j]? = some u → w.cell? (ad.add (i.toNat * 1 + j)) = some u := hc0
  obtain ⟨A0, c0, rfl, l0, g0⟩ := hK
  exact ⟨ad, A0, c0, e, by have hq := hc 0 _ rfl; rwa [Nat.mul_one, Nat.add_zero] at hq, l0, g0⟩

end Go.Proofs.Ythjfmlehkcccfaa.GA
end

section
/-
  slices.Clone of a slice of ints: a row of the call's own that reads as the list.
-/
set_option linter.unusedVariables false
set_option linter.unusedSimpArgs false
namespace Go.Proofs.Ythjfmlehkcccfaa.Hclone
open Go.RowKit Go.Proofs.YthjfmlehkcccfaaW.PrintWords Go.Proofs.YthjfmlehkcccfaaW.PrintLast Go.Proofs.YthjfmlehkcccfaaW.PrintMore Go.Proofs.Ythjfmlehkcccfaa.GA
theorem info3 : (Try.prog.info? 3).map (fun i => (i.zero, i.size, i.bytes)) = some (some (.int .i64 0), 1, 8) := by kernel_rfl
set_option maxHeartbeats 2000000 in
set_option maxRecDepth 100000 in
theorem clone_calls (A : Option Addr) (c : Nat) (l : List Int) (w : World) (hr : Kd.C (Kd.int .i64) w A l.length l) (hc : l.length ≤ c) (hl : l.length < 17592186044416) :
    Calls Try.prog 27 #[.slice A l.length c] w fun e w' => ∃ v : Value, e = .returned v ∧ Kd.R (Kd.int .i64) 3 w' w.heap.size (fun _ => True) v l ∧ Below w.heap.size w w' := by
  have q28 : ∀ (w : World) (a : Option Addr) (n c n' c' : Nat), (binOp .eql 28 (.slice a n c) (.slice none n' c')).run Try.prog w = .ok (.bool a.isNone) w := fun w a n c n' c' => Lib.run_eql_slice_nil w _ _ a n c n' c' Try.underlying28
  cases A with
  | none =>
    have hl0 : l = [] := by
      by_cases e : 0 < l.length
      · obtain ⟨ad, h1, _⟩ := Kd.at_int hr 0 (by omega) (by omega)
        cases h1
      · exact List.length_eq_zero_iff.1 (by omega)
    subst hl0
    go_enter Try.func27, Try.ntmps27
    go_wp2
    go_ret
    exact ⟨_, rfl, Kd.R_nil _ _ _ _ _, Below.refl _ _⟩
  | some ad =>
    have HR := Aside0.mk hr
    clear hr
    go_enter Try.func27, Try.ntmps27
    go_wp2_with (first
      | ((with_reducible refine gate_dst (N := 5) rfl ?_); refine Kd.R_lit (Kd.int .i64) (w0 := w) w.heap.size 3 ?hg (N := 5) ?hd (xs := ([] : List Int)) (inner := []) (ok := fun _ => True) (okp := fun _ => True) ?hr ?hp (fun _ hk => hk) trivial (Below.refl _ _) (Nat.le_refl _) (by simp) ?_; (case hd => rfl); (case hg => rfl); (case hr => first | (go_simp; done) | (go_simp; rfl)); (case hp => exact (Reps.none _ _)); intro v1 w1 HR1 HB1 hg1 _; have HR1 := Aside0.mk HR1; have HB1 := Aside0.mk HB1; clear hg1)
      | ((with_reducible refine gate_builtin (b := .append) (xs := #[.tmp 5, .tmp 6]) rfl ?_); at_builtin; refine Kd.R_append_row (Value.int .i64) 0 (w0 := w) (h1 := fun _ => rfl) w.heap.size rfl (.tmp 5) (.tmp 6) 28 3 (.int .i64 0) 8 rfl Try.underlying28 info3 rfl (by decide) v1 [] l (some ad) l.length c (fun _ => True) rfl rfl (fun _ _ => trivial) HR1.out (Kd.C_below HR.out HB1.out) HB1.out HB1.out.size (by simp; omega) ?_; intro v2 w2 HR2 HB2 hg2 _; have HR2 := Aside0.mk HR2; have HB2 := Aside0.mk HB2; clear hg2))
    go_ret
    exact ⟨v2, rfl, HR2.out, HB2.out⟩
end Go.Proofs.Ythjfmlehkcccfaa.Hclone
end

section
-- laid by a program of this session (wip/gp.sh)
namespace Go.Proofs.Ythjfmlehkcccfaa.GA
open Go.RowKit Go.Proofs.YthjfmlehkcccfaaW.PrintWords Go.Proofs.YthjfmlehkcccfaaW.PrintLast Go.Proofs.YthjfmlehkcccfaaW.PrintMore
attribute [local go_sem] max2_int min2_int max_two min_two max_three min_three max_four min_four   -- for this text's walks alone
set_option linter.unusedVariables false
set_option linter.unusedSimpArgs false

/-! ### rotalaw09_ints: function 30 -/
def rotalaw09_ints.l0 : Nat → List Int → List Int → Int → Option (List Int)
  | 0, _, _, _ => none
  | k + 1, x0, x3, x4 => if x4 < (x0.length : Int) then (if 0 ≤ x4 then (if x3.length < 17592186044416 then (rotalaw09_ints.l0 k x0 (x3 ++ [rd x0 x4]) (wrap64 (x4 + 1))) else (none)) else (none)) else (some x3)
def rotalaw09_ints.f (k : Nat) (l0 : List Int) : Option (List Int) := rotalaw09_ints.l0 k l0 (([] : List Int)) 0
theorem rotalaw09_ints.mono_l : ∀ k, (∀ y0 y1 y2, LeO (rotalaw09_ints.l0 k y0 y1 y2) (rotalaw09_ints.l0 (k + 1) y0 y1 y2))
  | 0 => fun _ _ _ r h => by simp [rotalaw09_ints.l0] at h
  | k + 1 => by
    have ih0 := rotalaw09_ints.mono_l k
    · intro y0 y1 y2
      unfold rotalaw09_ints.l0
      repeat' first
      | (with_reducible exact ih0 _ _ _)
      | (with_reducible exact LeO.refl _)
      | (with_reducible exact LeO.none _)
      | (with_reducible refine LeO.ite ?_ ?_)
      | (with_reducible refine LeO.bind ?_ (fun _ => ?_))
      | exact ih0 _ _ _
      | exact LeO.none _
      | refine LeO.ite ?_ ?_
      | refine LeO.bind ?_ (fun _ => ?_)
theorem rotalaw09_ints.mono : ∀ a0 k, LeO (rotalaw09_ints.f k a0) (rotalaw09_ints.f (k + 1) a0) := by
  intro a0 k
  have ih0 := rotalaw09_ints.mono_l k
  unfold rotalaw09_ints.f
  repeat' first
      | (with_reducible exact ih0 _ _ _)
      | (with_reducible exact LeO.refl _)
      | (with_reducible exact LeO.none _)
      | (with_reducible refine LeO.ite ?_ ?_)
      | (with_reducible refine LeO.bind ?_ (fun _ => ?_))
      | exact ih0 _ _ _
      | exact LeO.none _
      | refine LeO.ite ?_ ?_
      | refine LeO.bind ?_ (fun _ => ?_)
set_option maxHeartbeats 8000000 in
set_option maxRecDepth 100000 in
theorem rotalaw09_ints.calls (k : Nat) (A0 : Option Addr) (c0 : Nat) (l0 : List Int) (r : List Int) (w : World) (hr0 : Kd.C (Kd.int .i64) w A0 l0.length l0) (hc0 : l0.length ≤ c0) (h : rotalaw09_ints.f k l0 = some r) :
    Calls Try.prog 30 #[.slice A0 l0.length c0] w fun e w' => ∃ v0_ : Value, e = .returned (v0_) ∧ Kd.R (Kd.int .i64) 3 w' w.heap.size (fun _ => True) v0_ r ∧ Below w.heap.size w w' := by
  have HR0 := Aside0.mk hr0
  have HC0 := Aside0.mk hc0
  clear hr0 hc0
  have HB := Aside0.mk (Below.refl w.heap.size w)
  have H : (rotalaw09_ints.l0 k l0 (([] : List Int)) 0) = some r := h
  clear h
  obtain ⟨y176, hy176⟩ : ∃ y_ : List Int, y_ = (([] : List Int)) := ⟨_, rfl⟩
  replace H : (rotalaw09_ints.l0 k l0 y176 0) = some r := by first | (rw [hy176]; with_reducible exact H) | (have H2_ := (Option.bind_some _ _).symm.trans H; rw [hy176]; with_reducible exact H2_) | (have H2_ := (Option.bind_some _ _).symm.trans H; with_reducible exact H2_) | with_reducible exact H | (rw [hy176]; exact H) | exact H
  have Ny176 := Aside0.mk hy176
  clear hy176
  have H' := Aside0.mk H
  clear H
  go_enter Try.func30, Try.ntmps30
  go_wp2_with (first | ((with_reducible refine gate_dst (N := 5) rfl ?_); refine Kd.R_lit (Kd.int .i64) _ 3 ?hg (N := 5) ?hd (xs := ([] : List Int)) (inner := []) (ok := fun _ => True) (okp := fun _ => True) ?hr ?hp (fun _ hk => hk) trivial (Below.refl _ _) (Nat.le_refl _) (by simp) ?_; (case hd => rfl); (case hg => rfl); (case hr => first | (go_simp; done) | (go_simp; rfl)); (case hp => exact (Reps.none _ _)); intro v177 w2 ho3 hb hg_ hnew_; clear hg_ hnew_; (first | rw [← Ny176.out] at ho3 | (simp only [Int.reduceToNat] at ho3; rw [← Ny176.out] at ho3)); have n0_ := Aside0.mk (Kd.R_lower ho3 (below_size (by repeat (first | (with_reducible first | exact HB.out | apply below_alloc | apply pw_below_drewN | apply below_drew1) | exact HB.out)))); have n1_ := Aside0.mk (below_step (by repeat (first | (with_reducible first | exact HB.out | apply below_alloc | apply pw_below_drewN | apply below_drew1) | exact HB.out)) hb); clear HB; have HO178 := n0_; have HB := n1_; clear n0_ n1_; clear hb ho3))
  go_loopg [3, 4] k (fun kq v3 v4 w' => ∃ (x3_1 : List Int) (x4_1 : Int), v4 = .int .i64 x4_1 ∧ Aside0 (rotalaw09_ints.l0 kq l0 x3_1 x4_1 = some r) ∧ Aside0 (kq ≤ k) ∧ Aside0 (Kd.R (Kd.int .i64) 3 w' w.heap.size (fun _ => True) v3 x3_1) ∧ Aside0 (Below w.heap.size w w'))
  case atStart => exact ⟨(y176), (0), (by first | rfl | (simp; done) | (simp [*]; done)), H', ⟨Nat.le_refl _⟩, ⟨by (with_reducible repeat (first | apply Kd.R_alloc | apply Kd.R_drewN | apply Kd.R_drew)); exact HO178.out⟩, ⟨by repeat (first | (with_reducible first | exact HB.out | apply below_alloc | apply pw_below_drewN | apply below_drew1) | exact HB.out)⟩⟩
  case round =>
    clear H'
    try clear p2
    try clear c3
    obtain ⟨x3_1, x4_1, rfl, HA, HK1, HO_3, HB⟩ := hrel
    cases gk with
    | zero => exact absurd HA.out (by simp [rotalaw09_ints.l0])
    | succ k1 =>
      have H := HA.out
      clear HA
      simp only [rotalaw09_ints.l0] at H
      by_cases c4 : x4_1 < (l0.length : Int)
      · rw [if_pos c4] at H
        have c4b0 : decide (x4_1 < (l0.length : Int)) = true := decide_eq_true c4
        clear c4
        by_cases c5 : 0 ≤ x4_1
        · rw [if_pos c5] at H
          have c5b0 : decide (0 ≤ x4_1) = true := decide_eq_true c5
          clear c5
          by_cases c6 : x3_1.length < 17592186044416
          · rw [if_pos c6] at H
            have LMc6 := Aside0.mk c6
            clear c6
            obtain ⟨y180, hy180⟩ : ∃ y_ : List Int, y_ = (x3_1 ++ [rd l0 x4_1]) := ⟨_, rfl⟩
            replace H : (rotalaw09_ints.l0 k1 l0 y180 (wrap64 (x4_1 + 1))) = some r := by first | (rw [hy180]; with_reducible exact H) | (have H2_ := (Option.bind_some _ _).symm.trans H; rw [hy180]; with_reducible exact H2_) | (have H2_ := (Option.bind_some _ _).symm.trans H; with_reducible exact H2_) | with_reducible exact H | (rw [hy180]; exact H) | exact H
            have Ny180 := Aside0.mk hy180
            clear hy180
            have H' := Aside0.mk H
            clear H
            have p179 : 0 ≤ (x4_1 : Int) := of_decide_eq_true (by first | (with_reducible assumption) | assumption)
            have q179 : x4_1 < (l0.length : Int) := of_decide_eq_true (by first | (with_reducible assumption) | assumption)
            obtain ⟨ad179, e179, hx179_0⟩ := Kd.at_int HR0.out x4_1 p179 q179
            cases e179
            replace hx179_0 := (HB.out.cell (World.block_lt_of_cell? w _ hx179_0)).trans hx179_0
            replace p179 := eq_true p179
            replace q179 := eq_true q179
            go_wp2_with (first | ((with_reducible refine gate_builtin (b := .append) (xs := #[.tmp 12, .tmp 17]) rfl ?_); at_builtin; refine Kd.R_append (Kd.int .i64) (w0 := w) w.heap.size rfl (.tmp 12) (.tmp 17) 28 3 (.int .i64 0) 8 rfl Try.underlying28 info3 rfl (by decide) (by omega) u3 x3_1 (rd l0 x4_1) [.int .i64 (rd l0 x4_1)] (fun _ => True) (fun _ => False) rfl rfl ?aP (fun _ hk => hk.elim) ?aF ?aO ?aB ?aS ?aL ?_; (case aP => exact rfl); (case aB => exact (by repeat (first | (with_reducible first | exact HB.out | apply below_alloc | apply pw_below_drewN | apply below_drew1) | exact HB.out))); (case aF => exact (fun _ _ => trivial)); (case aO => exact (by (with_reducible repeat (first | apply Kd.R_alloc | apply Kd.R_drewN | apply Kd.R_drew)); exact HO_3.out)); (case aS => exact (below_size (by repeat (first | (with_reducible first | exact HB.out | apply below_alloc | apply pw_below_drewN | apply below_drew1) | exact HB.out)))); (case aL => have := LMc6.out; omega); intro v181 w7 ho hb hg hat; rw [← Ny180.out] at ho; have n0_ := Aside0.mk (hb); have n1_ := Aside0.mk (ho); clear HB; clear HO_3; have HB := n0_; have HO182 := n1_; clear n0_ n1_; clear ho hb hg hat))
            go_roundg k1
            case measure => have := HK1.out; omega
            case rel => exact ⟨(y180), (wrap64 (x4_1 + 1)), (by first | rfl | (simp; done) | (simp [*]; done)), H', ⟨by have := HK1.out; omega⟩, ⟨by (with_reducible repeat (first | apply Kd.R_alloc | apply Kd.R_drewN | apply Kd.R_drew)); exact HO182.out⟩, ⟨by repeat (first | (with_reducible first | exact HB.out | apply below_alloc | apply pw_below_drewN | apply below_drew1) | exact HB.out)⟩⟩
          · rw [if_neg c6] at H
            exact absurd H (by simp)
        · rw [if_neg c5] at H
          exact absurd H (by simp)
      · rw [if_neg c4] at H
        have c4b0 : decide (x4_1 < (l0.length : Int)) = false := decide_eq_false c4
        clear c4
        obtain rfl := Option.some.inj H
        go_wp2
        go_ret
        exact ⟨_, by first | rfl | (simp [errW_none, errW_some] <;> rfl) | (simp [*, errW_none, errW_some] <;> rfl), by (with_reducible repeat (first | apply Kd.R_alloc | apply Kd.R_drewN | apply Kd.R_drew)); exact HO_3.out, by repeat (first | (with_reducible first | exact HB.out | apply below_alloc | apply pw_below_drewN | apply below_drew1) | exact HB.out)⟩

end Go.Proofs.Ythjfmlehkcccfaa.GA
end

section
-- laid by a program of this session (wip/gp.sh)
namespace Go.Proofs.Ythjfmlehkcccfaa.GA
open Go.RowKit Go.Proofs.YthjfmlehkcccfaaW.PrintWords Go.Proofs.YthjfmlehkcccfaaW.PrintLast Go.Proofs.YthjfmlehkcccfaaW.PrintMore
attribute [local go_sem] max2_int min2_int max_two min_two max_three min_three max_four min_four   -- for this text's walks alone
set_option linter.unusedVariables false
set_option linter.unusedSimpArgs false

/-! ### rotaref09_calls: function 33 -/
def rotaref09_calls.l0 : Nat → List Int → List Int → Int → Option (List Int)
  | 0, _, _, _ => none
  | k + 1, x0, x3, x4 => if x4 < (x0.length : Int) then (if 0 ≤ x4 then (if x3.length < 17592186044416 then (rotaref09_calls.l0 k x0 (x3 ++ [rd x0 x4]) (wrap64 (x4 + 1))) else (none)) else (none)) else (some x3)
def rotaref09_calls.f (k : Nat) (l0 : List Int) : Option (List Int) := rotaref09_calls.l0 k l0 (([] : List Int)) 0
theorem rotaref09_calls.mono_l : ∀ k, (∀ y0 y1 y2, LeO (rotaref09_calls.l0 k y0 y1 y2) (rotaref09_calls.l0 (k + 1) y0 y1 y2))
  | 0 => fun _ _ _ r h => by simp [rotaref09_calls.l0] at h
  | k + 1 => by
    have ih0 := rotaref09_calls.mono_l k
    · intro y0 y1 y2
      unfold rotaref09_calls.l0
      repeat' first
      | (with_reducible exact ih0 _ _ _)
      | (with_reducible exact LeO.refl _)
      | (with_reducible exact LeO.none _)
      | (with_reducible refine LeO.ite ?_ ?_)
      | (with_reducible refine LeO.bind ?_ (fun _ => ?_))
      | exact ih0 _ _ _
      | exact LeO.none _
      | refine LeO.ite ?_ ?_
      | refine LeO.bind ?_ (fun _ => ?_)
theorem rotaref09_calls.mono : ∀ a0 k, LeO (rotaref09_calls.f k a0) (rotaref09_calls.f (k + 1) a0) := by
  intro a0 k
  have ih0 := rotaref09_calls.mono_l k
  unfold rotaref09_calls.f
  repeat' first
      | (with_reducible exact ih0 _ _ _)
      | (with_reducible exact LeO.refl _)
      | (with_reducible exact LeO.none _)
      | (with_reducible refine LeO.ite ?_ ?_)
      | (with_reducible refine LeO.bind ?_ (fun _ => ?_))
      | exact ih0 _ _ _
      | exact LeO.none _
      | refine LeO.ite ?_ ?_
      | refine LeO.bind ?_ (fun _ => ?_)
set_option maxHeartbeats 8000000 in
set_option maxRecDepth 100000 in
theorem rotaref09_calls.calls (k : Nat) (A0 : Option Addr) (c0 : Nat) (l0 : List Int) (r : List Int) (w : World) (hr0 : Kd.C (Kd.int .i64) w A0 l0.length l0) (hc0 : l0.length ≤ c0) (h : rotaref09_calls.f k l0 = some r) :
    Calls Try.prog 33 #[.slice A0 l0.length c0] w fun e w' => ∃ v0_ : Value, e = .returned (v0_) ∧ Kd.R (Kd.int .i64) 3 w' w.heap.size (fun _ => True) v0_ r ∧ Below w.heap.size w w' := by
  have HR0 := Aside0.mk hr0
  have HC0 := Aside0.mk hc0
  clear hr0 hc0
  have HB := Aside0.mk (Below.refl w.heap.size w)
  have H : (rotaref09_calls.l0 k l0 (([] : List Int)) 0) = some r := h
  clear h
  obtain ⟨y207, hy207⟩ : ∃ y_ : List Int, y_ = (([] : List Int)) := ⟨_, rfl⟩
  replace H : (rotaref09_calls.l0 k l0 y207 0) = some r := by first | (rw [hy207]; with_reducible exact H) | (have H2_ := (Option.bind_some _ _).symm.trans H; rw [hy207]; with_reducible exact H2_) | (have H2_ := (Option.bind_some _ _).symm.trans H; with_reducible exact H2_) | with_reducible exact H | (rw [hy207]; exact H) | exact H
  have Ny207 := Aside0.mk hy207
  clear hy207
  have H' := Aside0.mk H
  clear H
  go_enter Try.func33, Try.ntmps33
  go_wp2_with (first | ((with_reducible refine gate_dst (N := 5) rfl ?_); refine Kd.R_lit (Kd.int .i64) _ 3 ?hg (N := 5) ?hd (xs := ([] : List Int)) (inner := []) (ok := fun _ => True) (okp := fun _ => True) ?hr ?hp (fun _ hk => hk) trivial (Below.refl _ _) (Nat.le_refl _) (by simp) ?_; (case hd => rfl); (case hg => rfl); (case hr => first | (go_simp; done) | (go_simp; rfl)); (case hp => exact (Reps.none _ _)); intro v208 w2 ho3 hb hg_ hnew_; clear hg_ hnew_; (first | rw [← Ny207.out] at ho3 | (simp only [Int.reduceToNat] at ho3; rw [← Ny207.out] at ho3)); have n0_ := Aside0.mk (Kd.R_lower ho3 (below_size (by repeat (first | (with_reducible first | exact HB.out | apply below_alloc | apply pw_below_drewN | apply below_drew1) | exact HB.out)))); have n1_ := Aside0.mk (below_step (by repeat (first | (with_reducible first | exact HB.out | apply below_alloc | apply pw_below_drewN | apply below_drew1) | exact HB.out)) hb); clear HB; have HO209 := n0_; have HB := n1_; clear n0_ n1_; clear hb ho3))
  go_loopg [3, 4] k (fun kq v3 v4 w' => ∃ (x3_1 : List Int) (x4_1 : Int), v4 = .int .i64 x4_1 ∧ Aside0 (rotaref09_calls.l0 kq l0 x3_1 x4_1 = some r) ∧ Aside0 (kq ≤ k) ∧ Aside0 (Kd.R (Kd.int .i64) 3 w' w.heap.size (fun _ => True) v3 x3_1) ∧ Aside0 (Below w.heap.size w w'))
  case atStart => exact ⟨(y207), (0), (by first | rfl | (simp; done) | (simp [*]; done)), H', ⟨Nat.le_refl _⟩, ⟨by (with_reducible repeat (first | apply Kd.R_alloc | apply Kd.R_drewN | apply Kd.R_drew)); exact HO209.out⟩, ⟨by repeat (first | (with_reducible first | exact HB.out | apply below_alloc | apply pw_below_drewN | apply below_drew1) | exact HB.out)⟩⟩
  case round =>
    clear H'
    try clear p2
    try clear c3
    obtain ⟨x3_1, x4_1, rfl, HA, HK1, HO_3, HB⟩ := hrel
    cases gk with
    | zero => exact absurd HA.out (by simp [rotaref09_calls.l0])
    | succ k1 =>
      have H := HA.out
      clear HA
      simp only [rotaref09_calls.l0] at H
      by_cases c4 : x4_1 < (l0.length : Int)
      · rw [if_pos c4] at H
        have c4b0 : decide (x4_1 < (l0.length : Int)) = true := decide_eq_true c4
        clear c4
        by_cases c5 : 0 ≤ x4_1
        · rw [if_pos c5] at H
          have c5b0 : decide (0 ≤ x4_1) = true := decide_eq_true c5
          clear c5
          by_cases c6 : x3_1.length < 17592186044416
          · rw [if_pos c6] at H
            have LMc6 := Aside0.mk c6
            clear c6
            obtain ⟨y211, hy211⟩ : ∃ y_ : List Int, y_ = (x3_1 ++ [rd l0 x4_1]) := ⟨_, rfl⟩
            replace H : (rotaref09_calls.l0 k1 l0 y211 (wrap64 (x4_1 + 1))) = some r := by first | (rw [hy211]; with_reducible exact H) | (have H2_ := (Option.bind_some _ _).symm.trans H; rw [hy211]; with_reducible exact H2_) | (have H2_ := (Option.bind_some _ _).symm.trans H; with_reducible exact H2_) | with_reducible exact H | (rw [hy211]; exact H) | exact H
            have Ny211 := Aside0.mk hy211
            clear hy211
            have H' := Aside0.mk H
            clear H
            have p210 : 0 ≤ (x4_1 : Int) := of_decide_eq_true (by first | (with_reducible assumption) | assumption)
            have q210 : x4_1 < (l0.length : Int) := of_decide_eq_true (by first | (with_reducible assumption) | assumption)
            obtain ⟨ad210, e210, hx210_0⟩ := Kd.at_int HR0.out x4_1 p210 q210
            cases e210
            replace hx210_0 := (HB.out.cell (World.block_lt_of_cell? w _ hx210_0)).trans hx210_0
            replace p210 := eq_true p210
            replace q210 := eq_true q210
            go_wp2_with (first | ((with_reducible refine gate_builtin (b := .append) (xs := #[.tmp 12, .tmp 17]) rfl ?_); at_builtin; refine Kd.R_append (Kd.int .i64) (w0 := w) w.heap.size rfl (.tmp 12) (.tmp 17) 28 3 (.int .i64 0) 8 rfl Try.underlying28 info3 rfl (by decide) (by omega) u3 x3_1 (rd l0 x4_1) [.int .i64 (rd l0 x4_1)] (fun _ => True) (fun _ => False) rfl rfl ?aP (fun _ hk => hk.elim) ?aF ?aO ?aB ?aS ?aL ?_; (case aP => exact rfl); (case aB => exact (by repeat (first | (with_reducible first | exact HB.out | apply below_alloc | apply pw_below_drewN | apply below_drew1) | exact HB.out))); (case aF => exact (fun _ _ => trivial)); (case aO => exact (by (with_reducible repeat (first | apply Kd.R_alloc | apply Kd.R_drewN | apply Kd.R_drew)); exact HO_3.out)); (case aS => exact (below_size (by repeat (first | (with_reducible first | exact HB.out | apply below_alloc | apply pw_below_drewN | apply below_drew1) | exact HB.out)))); (case aL => have := LMc6.out; omega); intro v212 w7 ho hb hg hat; rw [← Ny211.out] at ho; have n0_ := Aside0.mk (hb); have n1_ := Aside0.mk (ho); clear HB; clear HO_3; have HB := n0_; have HO213 := n1_; clear n0_ n1_; clear ho hb hg hat))
            go_roundg k1
            case measure => have := HK1.out; omega
            case rel => exact ⟨(y211), (wrap64 (x4_1 + 1)), (by first | rfl | (simp; done) | (simp [*]; done)), H', ⟨by have := HK1.out; omega⟩, ⟨by (with_reducible repeat (first | apply Kd.R_alloc | apply Kd.R_drewN | apply Kd.R_drew)); exact HO213.out⟩, ⟨by repeat (first | (with_reducible first | exact HB.out | apply below_alloc | apply pw_below_drewN | apply below_drew1) | exact HB.out)⟩⟩
          · rw [if_neg c6] at H
            exact absurd H (by simp)
        · rw [if_neg c5] at H
          exact absurd H (by simp)
      · rw [if_neg c4] at H
        have c4b0 : decide (x4_1 < (l0.length : Int)) = false := decide_eq_false c4
        clear c4
        obtain rfl := Option.some.inj H
        go_wp2
        go_ret
        exact ⟨_, by first | rfl | (simp [errW_none, errW_some] <;> rfl) | (simp [*, errW_none, errW_some] <;> rfl), by (with_reducible repeat (first | apply Kd.R_alloc | apply Kd.R_drewN | apply Kd.R_drew)); exact HO_3.out, by repeat (first | (with_reducible first | exact HB.out | apply below_alloc | apply pw_below_drewN | apply below_drew1) | exact HB.out)⟩

end Go.Proofs.Ythjfmlehkcccfaa.GA
end

section
/-
  What traps, and copies of contexts: walked by hand.
-/
set_option linter.unusedVariables false
set_option linter.unusedSimpArgs false
namespace Go.Proofs.Ythjfmlehkcccfaa.Hsmall
open Go.RowKit Go.Proofs.YthjfmlehkcccfaaW.PrintWords Go.Proofs.YthjfmlehkcccfaaW.PrintLast Go.Proofs.YthjfmlehkcccfaaW.PrintMore GA Hctx

def wantC (op o a b c m x y z t k : Int) : Array Value := #[.int .i64 op, .int .i64 o, .int .i64 a, .int .i64 b, .int .i64 c, .int .i64 m, .int .i64 x, .int .i64 y, .int .i64 z, .int .i64 t, .int .i64 k]
def instC (o a b c m : Int) : Array Value := #[.int .i64 o, .int .i64 a, .int .i64 b, .int .i64 c, .int .i64 m]
def want0 : Array Value := wantC 0 0 0 0 0 0 0 0 0 0 0
def zeroR : Regs := ⟨0, 0, 0, 0, 0, 0, 0, 0, 0, 0, 0, 0, 0, 0, 0, 0⟩
/-- What a step comes to: a context with calls of its own, and what it wants. -/
def Post (w : World) (pc : Int) (r : Regs) (calls : List Int) (wc : Array Value) (x : Ending) (w' : World) : Prop :=
  ∃ v : Value, x = .returned (.tuple #[.agg (ctx pc r v), .agg wc]) ∧ Kd.R (Kd.int .i64) 3 w' w.heap.size (fun _ => True) v calls ∧ Below w.heap.size w w'
/-- What gives a context alone. -/
def PostC (w : World) (pc : Int) (r : Regs) (calls : List Int) (x : Ending) (w' : World) : Prop :=
  ∃ v : Value, x = .returned (.agg (ctx pc r v)) ∧ Kd.R (Kd.int .i64) 3 w' w.heap.size (fun _ => True) v calls ∧ Below w.heap.size w w'

theorem rotaref09_calls_l (l : List Int) (hl : l.length < 17592186044416) (d : Nat) : ∀ (m : List Int) (k i : Nat), i + d = l.length → m.length = i → d < k → rotaref09_calls.l0 k l m (i : Int) = some (m ++ l.drop i) := by
  induction d with
  | zero =>
    intro m k i h hm hk
    obtain ⟨k, rfl⟩ : ∃ z, k = z + 1 := ⟨k - 1, by omega⟩
    simp only [rotaref09_calls.l0]
    rw [if_neg (by omega), List.drop_of_length_le (by omega), List.append_nil]
  | succ d ih =>
    intro m k i h hm hk
    obtain ⟨k, rfl⟩ : ∃ z, k = z + 1 := ⟨k - 1, by omega⟩
    simp only [rotaref09_calls.l0]
    rw [if_pos (by omega), if_pos (by omega), if_pos (by omega), show wrap64 ((i : Int) + 1) = ((i + 1 : Nat) : Int) from by unfold wrap64; omega, ih _ k (i + 1) (by omega) (by simp; omega) (by omega)]
    rw [List.drop_eq_getElem_cons (by omega : i < l.length), List.append_assoc]
    simp [rd, List.getD, List.getElem?_eq_getElem (by omega : i < l.length)]
theorem rotaref09_calls_copy (A : Option Addr) (c : Nat) (l : List Int) (w : World) (hr : Kd.C (Kd.int .i64) w A l.length l) (hc : l.length ≤ c) (hl : l.length < 17592186044416) :
    Calls Try.prog 33 #[.slice A l.length c] w fun e w' => ∃ v : Value, e = .returned v ∧ Kd.R (Kd.int .i64) 3 w' w.heap.size (fun _ => True) v l ∧ Below w.heap.size w w' :=
  rotaref09_calls.calls (l.length + 1) A c l l w hr hc (by unfold rotaref09_calls.f; have := rotaref09_calls_l l hl l.length [] (l.length + 1) 0 (by omega) rfl (by omega); simpa using this)

theorem rotalaw09_ints_l (l : List Int) (hl : l.length < 17592186044416) (d : Nat) : ∀ (m : List Int) (k i : Nat), i + d = l.length → m.length = i → d < k → rotalaw09_ints.l0 k l m (i : Int) = some (m ++ l.drop i) := by
  induction d with
  | zero =>
    intro m k i h hm hk
    obtain ⟨k, rfl⟩ : ∃ z, k = z + 1 := ⟨k - 1, by omega⟩
    simp only [rotalaw09_ints.l0]
    rw [if_neg (by omega), List.drop_of_length_le (by omega), List.append_nil]
  | succ d ih =>
    intro m k i h hm hk
    obtain ⟨k, rfl⟩ : ∃ z, k = z + 1 := ⟨k - 1, by omega⟩
    simp only [rotalaw09_ints.l0]
    rw [if_pos (by omega), if_pos (by omega), if_pos (by omega), show wrap64 ((i : Int) + 1) = ((i + 1 : Nat) : Int) from by unfold wrap64; omega, ih _ k (i + 1) (by omega) (by simp; omega) (by omega)]
    rw [List.drop_eq_getElem_cons (by omega : i < l.length), List.append_assoc]
    simp [rd, List.getD, List.getElem?_eq_getElem (by omega : i < l.length)]
theorem rotalaw09_ints_copy (A : Option Addr) (c : Nat) (l : List Int) (w : World) (hr : Kd.C (Kd.int .i64) w A l.length l) (hc : l.length ≤ c) (hl : l.length < 17592186044416) :
    Calls Try.prog 30 #[.slice A l.length c] w fun e w' => ∃ v : Value, e = .returned v ∧ Kd.R (Kd.int .i64) 3 w' w.heap.size (fun _ => True) v l ∧ Below w.heap.size w w' :=
  rotalaw09_ints.calls (l.length + 1) A c l l w hr hc (by unfold rotalaw09_ints.f; have := rotalaw09_ints_l l hl l.length [] (l.length + 1) 0 (by omega) rfl (by omega); simpa using this)

set_option maxHeartbeats 2000000 in
set_option maxRecDepth 100000 in
theorem step_trapped (pc : Int) (r : Regs) (A : Option Addr) (c : Nat) (l : List Int) (t : Int) (w : World) (hl : Kd.C (Kd.int .i64) w A l.length l) (kl : l.length ≤ c) (hlim : l.length < 17592186044416) :
    Calls Try.prog 26 #[.agg (ctx pc r (.slice A l.length c)), .int .i64 t] w (Post w pc r l (wantC 58 0 0 0 0 0 0 0 0 t 0)) := by
  have hu30 := Try.underlying30
  have hu40 := Try.underlying40
  have HL := Aside0.mk hl
  clear hl
  have M0 := Aside0.mk (Mem.start 3 w)
  go_enter Try.func26, Try.ntmps26
  go_wp2_with (first
    | (refine eB M0 2 (ctx pc r (.slice A l.length c)) 30 ?_; clear M0; intro g2 w2 M1)
    | (refine eB M1 4 (ctx 0 zeroR (.slice none 0 0)) 30 ?_; clear M1; intro g4 w4 M2)
    | (refine eB M2 5 #[.int .i64 0, .int .i64 0, .int .i64 0, .int .i64 0, .int .i64 0, .int .i64 0, .int .i64 0, .int .i64 0, .int .i64 0, .int .i64 0, .int .i64 0] 40 ?_; clear M2; intro g5 w5 M3)
    | (refine eC M3 7 0 17 (.slice A l.length c) ?_))
  refine (Hclone.clone_calls A c l _ (Kd.C_below HL.out M3.out.below) kl hlim).mono ?_
  rintro e W8 ⟨v8, rfl, hR, hb⟩
  obtain ⟨A8, c8, rfl⟩ := Kd.R_slice hR
  have M4 := Aside0.mk (Mem.row M3.out hb hR)
  clear M3 hR hb
  go_wp2_with (first
    | (refine eS M4 28 9 0 17 (.slice A8 l.length c8) (ctx pc r (.slice A8 l.length c8)) ?_; clear M4; intro w_ M5)
    | (refine eL M5 10 0 hu30 ?_)
    | (refine eR M5 30 4 1 (ctx pc r (.slice A8 l.length c8)) ?_; clear M5; intro w_ M6)
    | (refine eR M6 40 5 2 #[.int .i64 58, .int .i64 0, .int .i64 0, .int .i64 0, .int .i64 0, .int .i64 0, .int .i64 0, .int .i64 0, .int .i64 0, .int .i64 t, .int .i64 0] ?_; clear M6; intro w_ M7))
  refine bodyPost_ret (results_cc rfl _ _ g4 g5 30 40 (ctx pc r (.slice A8 l.length c8)) #[.int .i64 58, .int .i64 0, .int .i64 0, .int .i64 0, .int .i64 0, .int .i64 0, .int .i64 0, .int .i64 0, .int .i64 0, .int .i64 t, .int .i64 0] (0, 0) (0, 0) _ _ rfl (M7.out.at 1 rfl) hu30 rfl (by kernel_rfl) rfl (M7.out.at 2 rfl) hu40 rfl (by kernel_rfl)) rfl ⟨_, rfl, M7.out.own, M7.out.below⟩

set_option maxHeartbeats 2000000 in
set_option maxRecDepth 100000 in
theorem ref_trapped (pc : Int) (r : Regs) (A : Option Addr) (c : Nat) (l : List Int) (t : Int) (w : World) (hl : Kd.C (Kd.int .i64) w A l.length l) (kl : l.length ≤ c) (hlim : l.length < 17592186044416) :
    Calls Try.prog 32 #[.agg (ctx pc r (.slice A l.length c)), .int .i64 t] w (Post w pc r l (wantC 58 0 0 0 0 0 0 0 0 t 0)) := by
  have hu30 := Try.underlying30
  have hu40 := Try.underlying40
  have HL := Aside0.mk hl
  clear hl
  have M0 := Aside0.mk (Mem.start 3 w)
  go_enter Try.func32, Try.ntmps32
  go_wp2_with (first
    | (refine eB M0 2 (ctx pc r (.slice A l.length c)) 30 ?_; clear M0; intro g2 w2 M1)
    | (refine eB M1 4 (ctx 0 zeroR (.slice none 0 0)) 30 ?_; clear M1; intro g4 w4 M2)
    | (refine eB M2 5 #[.int .i64 0, .int .i64 0, .int .i64 0, .int .i64 0, .int .i64 0, .int .i64 0, .int .i64 0, .int .i64 0, .int .i64 0, .int .i64 0, .int .i64 0] 40 ?_; clear M2; intro g5 w5 M3)
    | (refine eC M3 7 0 17 (.slice A l.length c) ?_))
  refine (rotaref09_calls_copy A c l _ (Kd.C_below HL.out M3.out.below) kl hlim).mono ?_
  rintro e W8 ⟨v8, rfl, hR, hb⟩
  obtain ⟨A8, c8, rfl⟩ := Kd.R_slice hR
  have M4 := Aside0.mk (Mem.row M3.out hb hR)
  clear M3 hR hb
  go_wp2_with (first
    | (refine eS M4 28 9 0 17 (.slice A8 l.length c8) (ctx pc r (.slice A8 l.length c8)) ?_; clear M4; intro w_ M5)
    | (refine eL M5 10 0 hu30 ?_)
    | (refine eR M5 30 4 1 (ctx pc r (.slice A8 l.length c8)) ?_; clear M5; intro w_ M6)
    | (refine eR M6 40 5 2 #[.int .i64 58, .int .i64 0, .int .i64 0, .int .i64 0, .int .i64 0, .int .i64 0, .int .i64 0, .int .i64 0, .int .i64 0, .int .i64 t, .int .i64 0] ?_; clear M6; intro w_ M7))
  refine bodyPost_ret (results_cc rfl _ _ g4 g5 30 40 (ctx pc r (.slice A8 l.length c8)) #[.int .i64 58, .int .i64 0, .int .i64 0, .int .i64 0, .int .i64 0, .int .i64 0, .int .i64 0, .int .i64 0, .int .i64 0, .int .i64 t, .int .i64 0] (0, 0) (0, 0) _ _ rfl (M7.out.at 1 rfl) hu30 rfl (by kernel_rfl) rfl (M7.out.at 2 rfl) hu40 rfl (by kernel_rfl)) rfl ⟨_, rfl, M7.out.own, M7.out.below⟩

set_option maxHeartbeats 2000000 in
set_option maxRecDepth 100000 in
theorem twin_calls (pc : Int) (r : Regs) (A : Option Addr) (c : Nat) (l : List Int) (w : World) (hl : Kd.C (Kd.int .i64) w A l.length l) (kl : l.length ≤ c) (hlim : l.length < 17592186044416) :
    Calls Try.prog 12 #[.agg (ctx pc r (.slice A l.length c))] w (PostC w pc r l) := by
  have hu30 := Try.underlying30
  have HL := Aside0.mk hl
  clear hl
  have M0 := Aside0.mk (Mem.start 3 w)
  go_enter Try.func12, Try.ntmps12
  go_wp2_with (first
    | (refine eB M0 1 (ctx pc r (.slice A l.length c)) 30 ?_; clear M0; intro g1 w1 M1)
    | (refine eB M1 2 (ctx 0 zeroR (.slice none 0 0)) 30 ?_; clear M1; intro g2 w2 M2)
    | (refine eC M2 4 0 17 (.slice A l.length c) ?_))
  refine (rotalaw09_ints_copy A c l _ (Kd.C_below HL.out M2.out.below) kl hlim).mono ?_
  rintro e W5 ⟨v5, rfl, hR, hb⟩
  obtain ⟨A5, c5, rfl⟩ := Kd.R_slice hR
  have M3 := Aside0.mk (Mem.row M2.out hb hR)
  clear M2 hR hb
  go_wp2_with (first
    | (refine eS M3 28 6 0 17 (.slice A5 l.length c5) (ctx pc r (.slice A5 l.length c5)) ?_; clear M3; intro w_ M4)
    | (refine eL M4 7 0 hu30 ?_)
    | (refine eR M4 30 2 1 (ctx pc r (.slice A5 l.length c5)) ?_; clear M4; intro w_ M5))
  refine bodyPost_ret (results_cell_row rfl _ _ g2 30 (ctx pc r (.slice A5 l.length c5)) (0, 0) _ rfl (M5.out.at 1 rfl) hu30 rfl (by kernel_rfl)) rfl ⟨_, rfl, M5.out.own, M5.out.below⟩

end Go.Proofs.Ythjfmlehkcccfaa.Hsmall
end

section
/-
  Answer, both sides, walked.
-/
set_option linter.unusedVariables false
set_option linter.unusedSimpArgs false
namespace Go.Proofs.Ythjfmlehkcccfaa.Hans
open Go.RowKit Go.Proofs.YthjfmlehkcccfaaW.PrintWords Go.Proofs.YthjfmlehkcccfaaW.PrintLast Go.Proofs.YthjfmlehkcccfaaW.PrintMore GA Hctx Hsmall
theorem and15 (x : Int) : 0 ≤ Go.bits .and .i64 x 15 ∧ Go.bits .and .i64 x 15 < 16 := by
  have e : Go.bits .and .i64 x 15 = IntKind.i64.wrap ((BitVec.ofInt 64 x &&& BitVec.ofInt 64 15).toNat : Int) := rfl
  have h : (BitVec.ofInt 64 x &&& BitVec.ofInt 64 15).toNat ≤ 15 := by
    rw [BitVec.toNat_and]
    exact Nat.le_trans Nat.and_le_right (by decide)
  rw [e, IntWalk.i64_in _ (by omega)]
  omega
/-- The registers behind an answer. -/
def ansR (op a b c v ok : Int) (r : Regs) : Regs :=
  if op = 22 ∨ op = 28 ∨ op = 32 ∨ op = 33 ∨ op = 34 ∨ op = 47 ∨ op = 49 ∨ op = 50 ∨ op = 55 ∨ op = 56 ∨ op = 57 then r.set (Go.bits .and .i64 a 15).toNat v
  else if op = 30 ∨ op = 51 ∨ op = 54 then (r.set (Go.bits .and .i64 a 15).toNat v).set (Go.bits .and .i64 b 15).toNat ok
  else if op = 53 then r.set (Go.bits .and .i64 c 15).toNat v
  else r
set_option maxHeartbeats 2000000 in
set_option maxRecDepth 100000 in
theorem answer20 (op a b c' m v ok pc : Int) (r : Regs) (A : Option Addr) (c : Nat) (l : List Int) (w : World) (hl : Kd.C (Kd.int .i64) w A l.length l) (kl : l.length ≤ c) (hlim : l.length < 17592186044416) :
    Calls Try.prog 20 #[.agg (ctx pc r (.slice A l.length c)), .agg (instC op a b c' m), .int .i64 v, .int .i64 ok] w (PostC w pc (ansR op a b c' v ok r) l) := by
  have hu30 := Try.underlying30
  obtain ⟨fa0, fa1⟩ := and15 a
  have hna : (Go.bits .and .i64 a 15).toNat < 16 := by omega
  obtain ⟨fb0, fb1⟩ := and15 b
  have hnb : (Go.bits .and .i64 b 15).toNat < 16 := by omega
  obtain ⟨fc0, fc1⟩ := and15 c'
  have hnc : (Go.bits .and .i64 c' 15).toNat < 16 := by omega
  have HL := Aside0.mk hl
  clear hl
  have M0 := Aside0.mk (Mem.start 3 w)
  go_enter Try.func20, Try.ntmps20
  go_wp2_with (first
    | (refine eB M0 4 (ctx pc r (.slice A l.length c)) 30 ?_; clear M0; intro g4 w4 M1)
    | (refine eB M1 5 (instC op a b c' m) 37 ?_; clear M1; intro g5 w5 M2)
    | (refine eB M2 8 (ctx 0 zeroR (.slice none 0 0)) 30 ?_; clear M2; intro g8 w8 M3)
    | (refine eC M3 10 0 17 (.slice A l.length c) ?_))
  refine (Hclone.clone_calls A c l _ (Kd.C_below HL.out M3.out.below) kl hlim).mono ?_
  rintro e W11 ⟨v11, rfl, hR, hb⟩
  obtain ⟨A11, c11, rfl⟩ := Kd.R_slice hR
  have M4 := Aside0.mk (Mem.row M3.out hb hR)
  clear M3 hR hb
  by_cases hg : op = 22 ∨ op = 28 ∨ op = 32 ∨ op = 33 ∨ op = 34 ∨ op = 47 ∨ op = 49 ∨ op = 50 ∨ op = 55 ∨ op = 56 ∨ op = 57
  · rcases hg with rfl | rfl | rfl | rfl | rfl | rfl | rfl | rfl | rfl | rfl | rfl
    all_goals
      go_wp2_with (first
        | (refine eS M4 28 12 0 17 (.slice A11 l.length c11) (ctx pc r (.slice A11 l.length c11)) ?_; clear M4; intro w_ M5)
        | (refine eC M5 14 1 0 (.int .i64 _) ?_)
        | (refine eC M5 28 1 1 (.int .i64 a) ?_)
        | (refine eS M5 2 32 0 (1 + (Go.bits .and .i64 a 15).toNat) (.int .i64 v) (ctx pc (r.set (Go.bits .and .i64 a 15).toNat v) (.slice A11 l.length c11)) (hj := ctx_some _ _ _ _ hna) (hnew := ctx_setreg _ _ _ _ hna _) ?_; clear M5; intro w_ M6)
        | (refine eL M6 57 0 hu30 ?_)
        | (refine eR M6 30 8 2 (ctx pc (r.set (Go.bits .and .i64 a 15).toNat v) (.slice A11 l.length c11)) ?_; clear M6; intro w_ M7))
      refine bodyPost_ret (results_cell_row rfl _ _ g8 30 (ctx pc (r.set (Go.bits .and .i64 a 15).toNat v) (.slice A11 l.length c11)) (0, 0) _ rfl (M7.out.at 2 rfl) hu30 rfl (by kernel_rfl)) rfl ⟨_, rfl, M7.out.own, M7.out.below⟩
  obtain ⟨n22, n28, n32, n33, n34, n47, n49, n50, n55, n56, n57⟩ : op ≠ 22 ∧ op ≠ 28 ∧ op ≠ 32 ∧ op ≠ 33 ∧ op ≠ 34 ∧ op ≠ 47 ∧ op ≠ 49 ∧ op ≠ 50 ∧ op ≠ 55 ∧ op ≠ 56 ∧ op ≠ 57 := by omega
  clear hg
  by_cases hg : op = 30 ∨ op = 51 ∨ op = 54
  · rcases hg with rfl | rfl | rfl
    all_goals
      go_wp2_with (first
        | (refine eS M4 28 12 0 17 (.slice A11 l.length c11) (ctx pc r (.slice A11 l.length c11)) ?_; clear M4; intro w_ M5)
        | (refine eC M5 14 1 0 (.int .i64 _) ?_)
        | (refine eC M5 38 1 1 (.int .i64 a) ?_)
        | (refine eS M5 2 42 0 (1 + (Go.bits .and .i64 a 15).toNat) (.int .i64 v) (ctx pc (r.set (Go.bits .and .i64 a 15).toNat v) (.slice A11 l.length c11)) (hj := ctx_some _ _ _ _ hna) (hnew := ctx_setreg _ _ _ _ hna _) ?_; clear M5; intro w_ M6)
        | (refine eC M6 44 1 2 (.int .i64 b) ?_)
        | (refine eS M6 2 48 0 (1 + (Go.bits .and .i64 b 15).toNat) (.int .i64 ok) (ctx pc ((r.set (Go.bits .and .i64 a 15).toNat v).set (Go.bits .and .i64 b 15).toNat ok) (.slice A11 l.length c11)) (hj := ctx_some _ _ _ _ hnb) (hnew := ctx_setreg _ _ _ _ hnb _) ?_; clear M6; intro w_ M7)
        | (refine eL M7 57 0 hu30 ?_)
        | (refine eR M7 30 8 2 (ctx pc ((r.set (Go.bits .and .i64 a 15).toNat v).set (Go.bits .and .i64 b 15).toNat ok) (.slice A11 l.length c11)) ?_; clear M7; intro w_ M8))
      refine bodyPost_ret (results_cell_row rfl _ _ g8 30 (ctx pc ((r.set (Go.bits .and .i64 a 15).toNat v).set (Go.bits .and .i64 b 15).toNat ok) (.slice A11 l.length c11)) (0, 0) _ rfl (M8.out.at 2 rfl) hu30 rfl (by kernel_rfl)) rfl ⟨_, rfl, M8.out.own, M8.out.below⟩
  obtain ⟨n30, n51, n54⟩ : op ≠ 30 ∧ op ≠ 51 ∧ op ≠ 54 := by omega
  clear hg
  by_cases hg : op = 53
  · rcases hg with rfl
    all_goals
      go_wp2_with (first
        | (refine eS M4 28 12 0 17 (.slice A11 l.length c11) (ctx pc r (.slice A11 l.length c11)) ?_; clear M4; intro w_ M5)
        | (refine eC M5 14 1 0 (.int .i64 _) ?_)
        | (refine eC M5 52 1 3 (.int .i64 c') ?_)
        | (refine eS M5 2 56 0 (1 + (Go.bits .and .i64 c' 15).toNat) (.int .i64 v) (ctx pc (r.set (Go.bits .and .i64 c' 15).toNat v) (.slice A11 l.length c11)) (hj := ctx_some _ _ _ _ hnc) (hnew := ctx_setreg _ _ _ _ hnc _) ?_; clear M5; intro w_ M6)
        | (refine eL M6 57 0 hu30 ?_)
        | (refine eR M6 30 8 2 (ctx pc (r.set (Go.bits .and .i64 c' 15).toNat v) (.slice A11 l.length c11)) ?_; clear M6; intro w_ M7))
      refine bodyPost_ret (results_cell_row rfl _ _ g8 30 (ctx pc (r.set (Go.bits .and .i64 c' 15).toNat v) (.slice A11 l.length c11)) (0, 0) _ rfl (M7.out.at 2 rfl) hu30 rfl (by kernel_rfl)) rfl ⟨_, rfl, M7.out.own, M7.out.below⟩
  have n53 := hg
  clear hg
  have hR0 : ansR op a b c' v ok r = r := by simp [ansR, n22, n28, n32, n33, n34, n47, n49, n50, n55, n56, n57, n30, n51, n54, n53]
  have HR0 := Lib.hid hR0
  clear hR0
  replace n22 := beq_eq_false_iff_ne.2 n22
  replace n28 := beq_eq_false_iff_ne.2 n28
  replace n32 := beq_eq_false_iff_ne.2 n32
  replace n33 := beq_eq_false_iff_ne.2 n33
  replace n34 := beq_eq_false_iff_ne.2 n34
  replace n47 := beq_eq_false_iff_ne.2 n47
  replace n49 := beq_eq_false_iff_ne.2 n49
  replace n50 := beq_eq_false_iff_ne.2 n50
  replace n55 := beq_eq_false_iff_ne.2 n55
  replace n56 := beq_eq_false_iff_ne.2 n56
  replace n57 := beq_eq_false_iff_ne.2 n57
  replace n30 := beq_eq_false_iff_ne.2 n30
  replace n51 := beq_eq_false_iff_ne.2 n51
  replace n54 := beq_eq_false_iff_ne.2 n54
  replace n53 := beq_eq_false_iff_ne.2 n53
  go_wp2_with (first
    | (refine eS M4 28 12 0 17 (.slice A11 l.length c11) (ctx pc r (.slice A11 l.length c11)) ?_; clear M4; intro w_ M5)
    | (refine eC M5 14 1 0 (.int .i64 op) ?_)
    | (refine eL M5 57 0 hu30 ?_)
    | (refine eR M5 30 8 2 (ctx pc r (.slice A11 l.length c11)) ?_; clear M5; intro w_ M6))
  rw [HR0.out]
  refine bodyPost_ret (results_cell_row rfl _ _ g8 30 (ctx pc r (.slice A11 l.length c11)) (0, 0) _ rfl (M6.out.at 2 rfl) hu30 rfl (by kernel_rfl)) rfl ⟨_, rfl, M6.out.own, M6.out.below⟩
set_option maxHeartbeats 2000000 in
set_option maxRecDepth 100000 in
theorem answer21 (op a b c' m v ok pc : Int) (r : Regs) (A : Option Addr) (c : Nat) (l : List Int) (w : World) (hl : Kd.C (Kd.int .i64) w A l.length l) (kl : l.length ≤ c) (hlim : l.length < 17592186044416) :
    Calls Try.prog 21 #[.agg (ctx pc r (.slice A l.length c)), .agg (instC op a b c' m), .int .i64 v, .int .i64 ok] w (PostC w pc (ansR op a b c' v ok r) l) := by
  have hu30 := Try.underlying30
  obtain ⟨fa0, fa1⟩ := and15 a
  have hna : (Go.bits .and .i64 a 15).toNat < 16 := by omega
  obtain ⟨fb0, fb1⟩ := and15 b
  have hnb : (Go.bits .and .i64 b 15).toNat < 16 := by omega
  obtain ⟨fc0, fc1⟩ := and15 c'
  have hnc : (Go.bits .and .i64 c' 15).toNat < 16 := by omega
  have HL := Aside0.mk hl
  clear hl
  have M0 := Aside0.mk (Mem.start 3 w)
  go_enter Try.func21, Try.ntmps21
  go_wp2_with (first
    | (refine eB M0 4 (ctx pc r (.slice A l.length c)) 30 ?_; clear M0; intro g4 w4 M1)
    | (refine eB M1 5 (instC op a b c' m) 37 ?_; clear M1; intro g5 w5 M2)
    | (refine eB M2 8 (ctx 0 zeroR (.slice none 0 0)) 30 ?_; clear M2; intro g8 w8 M3)
    | (refine eC M3 10 0 17 (.slice A l.length c) ?_))
  refine (rotaref09_calls_copy A c l _ (Kd.C_below HL.out M3.out.below) kl hlim).mono ?_
  rintro e W11 ⟨v11, rfl, hR, hb⟩
  obtain ⟨A11, c11, rfl⟩ := Kd.R_slice hR
  have M4 := Aside0.mk (Mem.row M3.out hb hR)
  clear M3 hR hb
  by_cases hg : op = 22 ∨ op = 28 ∨ op = 32 ∨ op = 33 ∨ op = 34 ∨ op = 47 ∨ op = 49 ∨ op = 50 ∨ op = 55 ∨ op = 56 ∨ op = 57
  · rcases hg with rfl | rfl | rfl | rfl | rfl | rfl | rfl | rfl | rfl | rfl | rfl
    all_goals
      go_wp2_with (first
        | (refine eS M4 28 12 0 17 (.slice A11 l.length c11) (ctx pc r (.slice A11 l.length c11)) ?_; clear M4; intro w_ M5)
        | (refine eC M5 14 1 0 (.int .i64 _) ?_)
        | (refine eC M5 28 1 1 (.int .i64 a) ?_)
        | (refine eS M5 2 32 0 (1 + (Go.bits .and .i64 a 15).toNat) (.int .i64 v) (ctx pc (r.set (Go.bits .and .i64 a 15).toNat v) (.slice A11 l.length c11)) (hj := ctx_some _ _ _ _ hna) (hnew := ctx_setreg _ _ _ _ hna _) ?_; clear M5; intro w_ M6)
        | (refine eL M6 57 0 hu30 ?_)
        | (refine eR M6 30 8 2 (ctx pc (r.set (Go.bits .and .i64 a 15).toNat v) (.slice A11 l.length c11)) ?_; clear M6; intro w_ M7))
      refine bodyPost_ret (results_cell_row rfl _ _ g8 30 (ctx pc (r.set (Go.bits .and .i64 a 15).toNat v) (.slice A11 l.length c11)) (0, 0) _ rfl (M7.out.at 2 rfl) hu30 rfl (by kernel_rfl)) rfl ⟨_, rfl, M7.out.own, M7.out.below⟩
  obtain ⟨n22, n28, n32, n33, n34, n47, n49, n50, n55, n56, n57⟩ : op ≠ 22 ∧ op ≠ 28 ∧ op ≠ 32 ∧ op ≠ 33 ∧ op ≠ 34 ∧ op ≠ 47 ∧ op ≠ 49 ∧ op ≠ 50 ∧ op ≠ 55 ∧ op ≠ 56 ∧ op ≠ 57 := by omega
  clear hg
  by_cases hg : op = 30 ∨ op = 51 ∨ op = 54
  · rcases hg with rfl | rfl | rfl
    all_goals
      go_wp2_with (first
        | (refine eS M4 28 12 0 17 (.slice A11 l.length c11) (ctx pc r (.slice A11 l.length c11)) ?_; clear M4; intro w_ M5)
        | (refine eC M5 14 1 0 (.int .i64 _) ?_)
        | (refine eC M5 38 1 1 (.int .i64 a) ?_)
        | (refine eS M5 2 42 0 (1 + (Go.bits .and .i64 a 15).toNat) (.int .i64 v) (ctx pc (r.set (Go.bits .and .i64 a 15).toNat v) (.slice A11 l.length c11)) (hj := ctx_some _ _ _ _ hna) (hnew := ctx_setreg _ _ _ _ hna _) ?_; clear M5; intro w_ M6)
        | (refine eC M6 44 1 2 (.int .i64 b) ?_)
        | (refine eS M6 2 48 0 (1 + (Go.bits .and .i64 b 15).toNat) (.int .i64 ok) (ctx pc ((r.set (Go.bits .and .i64 a 15).toNat v).set (Go.bits .and .i64 b 15).toNat ok) (.slice A11 l.length c11)) (hj := ctx_some _ _ _ _ hnb) (hnew := ctx_setreg _ _ _ _ hnb _) ?_; clear M6; intro w_ M7)
        | (refine eL M7 57 0 hu30 ?_)
        | (refine eR M7 30 8 2 (ctx pc ((r.set (Go.bits .and .i64 a 15).toNat v).set (Go.bits .and .i64 b 15).toNat ok) (.slice A11 l.length c11)) ?_; clear M7; intro w_ M8))
      refine bodyPost_ret (results_cell_row rfl _ _ g8 30 (ctx pc ((r.set (Go.bits .and .i64 a 15).toNat v).set (Go.bits .and .i64 b 15).toNat ok) (.slice A11 l.length c11)) (0, 0) _ rfl (M8.out.at 2 rfl) hu30 rfl (by kernel_rfl)) rfl ⟨_, rfl, M8.out.own, M8.out.below⟩
  obtain ⟨n30, n51, n54⟩ : op ≠ 30 ∧ op ≠ 51 ∧ op ≠ 54 := by omega
  clear hg
  by_cases hg : op = 53
  · rcases hg with rfl
    all_goals
      go_wp2_with (first
        | (refine eS M4 28 12 0 17 (.slice A11 l.length c11) (ctx pc r (.slice A11 l.length c11)) ?_; clear M4; intro w_ M5)
        | (refine eC M5 14 1 0 (.int .i64 _) ?_)
        | (refine eC M5 52 1 3 (.int .i64 c') ?_)
        | (refine eS M5 2 56 0 (1 + (Go.bits .and .i64 c' 15).toNat) (.int .i64 v) (ctx pc (r.set (Go.bits .and .i64 c' 15).toNat v) (.slice A11 l.length c11)) (hj := ctx_some _ _ _ _ hnc) (hnew := ctx_setreg _ _ _ _ hnc _) ?_; clear M5; intro w_ M6)
        | (refine eL M6 57 0 hu30 ?_)
        | (refine eR M6 30 8 2 (ctx pc (r.set (Go.bits .and .i64 c' 15).toNat v) (.slice A11 l.length c11)) ?_; clear M6; intro w_ M7))
      refine bodyPost_ret (results_cell_row rfl _ _ g8 30 (ctx pc (r.set (Go.bits .and .i64 c' 15).toNat v) (.slice A11 l.length c11)) (0, 0) _ rfl (M7.out.at 2 rfl) hu30 rfl (by kernel_rfl)) rfl ⟨_, rfl, M7.out.own, M7.out.below⟩
  have n53 := hg
  clear hg
  have hR0 : ansR op a b c' v ok r = r := by simp [ansR, n22, n28, n32, n33, n34, n47, n49, n50, n55, n56, n57, n30, n51, n54, n53]
  have HR0 := Lib.hid hR0
  clear hR0
  replace n22 := beq_eq_false_iff_ne.2 n22
  replace n28 := beq_eq_false_iff_ne.2 n28
  replace n32 := beq_eq_false_iff_ne.2 n32
  replace n33 := beq_eq_false_iff_ne.2 n33
  replace n34 := beq_eq_false_iff_ne.2 n34
  replace n47 := beq_eq_false_iff_ne.2 n47
  replace n49 := beq_eq_false_iff_ne.2 n49
  replace n50 := beq_eq_false_iff_ne.2 n50
  replace n55 := beq_eq_false_iff_ne.2 n55
  replace n56 := beq_eq_false_iff_ne.2 n56
  replace n57 := beq_eq_false_iff_ne.2 n57
  replace n30 := beq_eq_false_iff_ne.2 n30
  replace n51 := beq_eq_false_iff_ne.2 n51
  replace n54 := beq_eq_false_iff_ne.2 n54
  replace n53 := beq_eq_false_iff_ne.2 n53
  go_wp2_with (first
    | (refine eS M4 28 12 0 17 (.slice A11 l.length c11) (ctx pc r (.slice A11 l.length c11)) ?_; clear M4; intro w_ M5)
    | (refine eC M5 14 1 0 (.int .i64 op) ?_)
    | (refine eL M5 57 0 hu30 ?_)
    | (refine eR M5 30 8 2 (ctx pc r (.slice A11 l.length c11)) ?_; clear M5; intro w_ M6))
  rw [HR0.out]
  refine bodyPost_ret (results_cell_row rfl _ _ g8 30 (ctx pc r (.slice A11 l.length c11)) (0, 0) _ rfl (M6.out.at 2 rfl) hu30 rfl (by kernel_rfl)) rfl ⟨_, rfl, M6.out.own, M6.out.below⟩
end Go.Proofs.Ythjfmlehkcccfaa.Hans
end

section
/-
  The table of package word as plain data; the calls of word.table come to it; laws for a run of pure operations at once.
-/
namespace Go.Proofs.Ythjfmlehkcccfaa.Htab
open Go.RowKit

/-! ### operations that neither read nor write memory, a whole list of them at once -/
def quiet {α : Type} (P : Program) : Sem α → Option α
  | .pure a => some a
  | .program k => quiet P (k P)
  | .mark _ k => quiet P k
  | _ => none
theorem quiet_run {α : Type} {P : Program} : ∀ {s : Sem α} {a : α}, quiet P s = some a → ∀ w, s.run P w = .ok a w
  | .pure _, _, h, w => by simp only [quiet, Option.some.injEq] at h; subst h; rfl
  | .program k, _, h, w => by simp only [quiet] at h; exact quiet_run (s := k P) h w
  | .mark _ k, _, h, w => by simp only [quiet] at h; exact quiet_run (s := k) h w
def quietOps (P : Program) : List Oper → Act → Option Act
  | [], a => some a
  | o :: rest, a => match o.guard with
    | some _ => none
    | none => match quiet P (execOp a.eval o) with
      | some (.value v) => quietOps P rest (a.put o.dst v)
      | _ => none
theorem wpList_quiet {P : Program} {ops : Array Oper} {Q : Exit → Act → World → Prop} {rest : List Oper} {a' : Act} {w : World} :
    ∀ (os : List Oper) (a : Act), quietOps P os a = some a' → wpList P ops Q rest a' w → wpList P ops Q (os ++ rest) a w
  | [], a, h, k => by simp only [quietOps, Option.some.injEq] at h; subst h; exact k
  | o :: os, a, h, k => by
    simp only [quietOps] at h
    split at h
    · cases h
    · rename_i hg
      split at h
      · rename_i v hv
        refine wpList_plain hg fun K hK => ?_
        unfold Oper.wp
        rw [quiet_run hv w, Oper.upon_value]
        exact hK _ _ (wpList_quiet os _ h k)
      · cases h

def rows : List (ByteArray × Int × Int × ByteArray × ByteArray) :=
  [(⟨#[110, 111, 112]⟩, 0, 1, ⟨#[]⟩, ⟨#[]⟩),
   (⟨#[115, 101, 116]⟩, 6, 1, ⟨#[]⟩, ⟨#[97]⟩),
   (⟨#[104, 105, 103, 104]⟩, 5, 1, ⟨#[97]⟩, ⟨#[97]⟩),
   (⟨#[109, 111, 118, 101]⟩, 2, 1, ⟨#[98]⟩, ⟨#[97]⟩),
   (⟨#[97, 100, 100]⟩, 3, 1, ⟨#[98, 99]⟩, ⟨#[97]⟩),
   (⟨#[115, 117, 98]⟩, 3, 1, ⟨#[98, 99]⟩, ⟨#[97]⟩),
   (⟨#[109, 117, 108]⟩, 3, 3, ⟨#[98, 99]⟩, ⟨#[97]⟩),
   (⟨#[100, 105, 118]⟩, 3, 8, ⟨#[98, 99]⟩, ⟨#[97]⟩),
   (⟨#[114, 101, 109]⟩, 3, 8, ⟨#[98, 99]⟩, ⟨#[97]⟩),
   (⟨#[97, 110, 100]⟩, 3, 1, ⟨#[98, 99]⟩, ⟨#[97]⟩),
   (⟨#[111, 114]⟩, 3, 1, ⟨#[98, 99]⟩, ⟨#[97]⟩),
   (⟨#[120, 111, 114]⟩, 3, 1, ⟨#[98, 99]⟩, ⟨#[97]⟩),
   (⟨#[115, 104, 108]⟩, 3, 1, ⟨#[98, 99]⟩, ⟨#[97]⟩),
   (⟨#[115, 104, 114]⟩, 3, 1, ⟨#[98, 99]⟩, ⟨#[97]⟩),
   (⟨#[108, 101, 115, 115]⟩, 3, 1, ⟨#[98, 99]⟩, ⟨#[97]⟩),
   (⟨#[101, 113, 117, 97, 108]⟩, 3, 1, ⟨#[98, 99]⟩, ⟨#[97]⟩),
   (⟨#[106, 117, 109, 112]⟩, 4, 1, ⟨#[]⟩, ⟨#[]⟩),
   (⟨#[122, 101, 114, 111]⟩, 5, 1, ⟨#[97]⟩, ⟨#[]⟩),
   (⟨#[115, 111, 109, 101]⟩, 5, 1, ⟨#[97]⟩, ⟨#[]⟩),
   (⟨#[99, 97, 108, 108]⟩, 4, 2, ⟨#[]⟩, ⟨#[]⟩),
   (⟨#[114, 101, 116]⟩, 0, 2, ⟨#[]⟩, ⟨#[]⟩),
   (⟨#[115, 112, 97, 119, 110]⟩, 5, 4, ⟨#[97, 108, 108]⟩, ⟨#[97]⟩),
   (⟨#[121, 105, 101, 108, 100]⟩, 0, 1, ⟨#[]⟩, ⟨#[]⟩),
   (⟨#[101, 120, 105, 116]⟩, 0, 1, ⟨#[]⟩, ⟨#[]⟩),
   (⟨#[115, 101, 108, 102]⟩, 1, 1, ⟨#[]⟩, ⟨#[97]⟩),
   (⟨#[110, 111, 119]⟩, 1, 1, ⟨#[]⟩, ⟨#[97]⟩),
   (⟨#[115, 108, 101, 101, 112]⟩, 1, 1, ⟨#[97]⟩, ⟨#[]⟩),
   (⟨#[109, 97, 107, 101]⟩, 2, 4, ⟨#[98]⟩, ⟨#[97]⟩),
   (⟨#[115, 101, 110, 100]⟩, 2, 2, ⟨#[97, 98]⟩, ⟨#[]⟩),
   (⟨#[114, 101, 99, 118]⟩, 3, 2, ⟨#[99]⟩, ⟨#[97, 98]⟩),
   (⟨#[99, 108, 111, 115, 101]⟩, 1, 2, ⟨#[97]⟩, ⟨#[]⟩),
   (⟨#[108, 101, 110]⟩, 2, 1, ⟨#[98]⟩, ⟨#[97]⟩),
   (⟨#[99, 97, 112]⟩, 2, 1, ⟨#[98]⟩, ⟨#[97]⟩),
   (⟨#[115, 101, 108, 101, 99, 116]⟩, 5, 4, ⟨#[97, 108, 108]⟩, ⟨#[97, 108, 108]⟩),
   (⟨#[108, 111, 99, 107]⟩, 1, 2, ⟨#[97]⟩, ⟨#[]⟩),
   (⟨#[117, 110, 108, 111, 99, 107]⟩, 1, 2, ⟨#[97]⟩, ⟨#[]⟩),
   (⟨#[114, 108, 111, 99, 107]⟩, 1, 2, ⟨#[97]⟩, ⟨#[]⟩),
   (⟨#[114, 117, 110, 108, 111, 99, 107]⟩, 1, 2, ⟨#[97]⟩, ⟨#[]⟩),
   (⟨#[119, 97, 100, 100]⟩, 2, 2, ⟨#[97, 98]⟩, ⟨#[]⟩),
   (⟨#[119, 100, 111, 110, 101]⟩, 1, 2, ⟨#[97]⟩, ⟨#[]⟩),
   (⟨#[119, 119, 97, 105, 116]⟩, 1, 2, ⟨#[97]⟩, ⟨#[]⟩),
   (⟨#[99, 119, 97, 105, 116]⟩, 2, 3, ⟨#[97, 98]⟩, ⟨#[]⟩),
   (⟨#[115, 105, 103, 110, 97, 108]⟩, 1, 2, ⟨#[97]⟩, ⟨#[]⟩),
   (⟨#[98, 114, 111, 97, 100, 99, 97, 115, 116]⟩, 1, 3, ⟨#[97]⟩, ⟨#[]⟩),
   (⟨#[97, 99, 113, 117, 105, 114, 101]⟩, 1, 2, ⟨#[97]⟩, ⟨#[]⟩),
   (⟨#[114, 101, 108, 101, 97, 115, 101]⟩, 1, 2, ⟨#[97]⟩, ⟨#[]⟩),
   (⟨#[108, 111, 97, 100]⟩, 2, 2, ⟨#[98]⟩, ⟨#[97]⟩),
   (⟨#[115, 116, 111, 114, 101]⟩, 2, 2, ⟨#[97, 98]⟩, ⟨#[]⟩),
   (⟨#[115, 119, 97, 112]⟩, 3, 3, ⟨#[97, 98, 99]⟩, ⟨#[97]⟩),
   (⟨#[102, 101, 116, 99, 104]⟩, 3, 3, ⟨#[98, 99]⟩, ⟨#[97]⟩),
   (⟨#[105, 110, 112, 117, 116]⟩, 2, 2, ⟨#[]⟩, ⟨#[97, 98]⟩),
   (⟨#[111, 117, 116, 112, 117, 116]⟩, 1, 2, ⟨#[97]⟩, ⟨#[]⟩),
   (⟨#[112, 117, 116]⟩, 3, 2, ⟨#[97, 98]⟩, ⟨#[99]⟩),
   (⟨#[103, 101, 116]⟩, 3, 2, ⟨#[99]⟩, ⟨#[97, 98]⟩),
   (⟨#[97, 102, 116, 101, 114]⟩, 3, 3, ⟨#[98, 99]⟩, ⟨#[97]⟩),
   (⟨#[101, 118, 101, 114, 121]⟩, 3, 3, ⟨#[98, 99]⟩, ⟨#[97]⟩),
   (⟨#[115, 116, 111, 112]⟩, 2, 2, ⟨#[98]⟩, ⟨#[97]⟩),
   (⟨#[116, 114, 97, 112]⟩, 4, 1, ⟨#[]⟩, ⟨#[]⟩)]
def T58 : Array Value :=
  #[.string ⟨#[110, 111, 112]⟩, .int .i64 0, .int .i64 1, .string ⟨#[]⟩, .string ⟨#[]⟩,
    .string ⟨#[115, 101, 116]⟩, .int .i64 6, .int .i64 1, .string ⟨#[]⟩, .string ⟨#[97]⟩,
    .string ⟨#[104, 105, 103, 104]⟩, .int .i64 5, .int .i64 1, .string ⟨#[97]⟩, .string ⟨#[97]⟩,
    .string ⟨#[109, 111, 118, 101]⟩, .int .i64 2, .int .i64 1, .string ⟨#[98]⟩, .string ⟨#[97]⟩,
    .string ⟨#[97, 100, 100]⟩, .int .i64 3, .int .i64 1, .string ⟨#[98, 99]⟩, .string ⟨#[97]⟩,
    .string ⟨#[115, 117, 98]⟩, .int .i64 3, .int .i64 1, .string ⟨#[98, 99]⟩, .string ⟨#[97]⟩,
    .string ⟨#[109, 117, 108]⟩, .int .i64 3, .int .i64 3, .string ⟨#[98, 99]⟩, .string ⟨#[97]⟩,
    .string ⟨#[100, 105, 118]⟩, .int .i64 3, .int .i64 8, .string ⟨#[98, 99]⟩, .string ⟨#[97]⟩,
    .string ⟨#[114, 101, 109]⟩, .int .i64 3, .int .i64 8, .string ⟨#[98, 99]⟩, .string ⟨#[97]⟩,
    .string ⟨#[97, 110, 100]⟩, .int .i64 3, .int .i64 1, .string ⟨#[98, 99]⟩, .string ⟨#[97]⟩,
    .string ⟨#[111, 114]⟩, .int .i64 3, .int .i64 1, .string ⟨#[98, 99]⟩, .string ⟨#[97]⟩,
    .string ⟨#[120, 111, 114]⟩, .int .i64 3, .int .i64 1, .string ⟨#[98, 99]⟩, .string ⟨#[97]⟩,
    .string ⟨#[115, 104, 108]⟩, .int .i64 3, .int .i64 1, .string ⟨#[98, 99]⟩, .string ⟨#[97]⟩,
    .string ⟨#[115, 104, 114]⟩, .int .i64 3, .int .i64 1, .string ⟨#[98, 99]⟩, .string ⟨#[97]⟩,
    .string ⟨#[108, 101, 115, 115]⟩, .int .i64 3, .int .i64 1, .string ⟨#[98, 99]⟩, .string ⟨#[97]⟩,
    .string ⟨#[101, 113, 117, 97, 108]⟩, .int .i64 3, .int .i64 1, .string ⟨#[98, 99]⟩, .string ⟨#[97]⟩,
    .string ⟨#[106, 117, 109, 112]⟩, .int .i64 4, .int .i64 1, .string ⟨#[]⟩, .string ⟨#[]⟩,
    .string ⟨#[122, 101, 114, 111]⟩, .int .i64 5, .int .i64 1, .string ⟨#[97]⟩, .string ⟨#[]⟩,
    .string ⟨#[115, 111, 109, 101]⟩, .int .i64 5, .int .i64 1, .string ⟨#[97]⟩, .string ⟨#[]⟩,
    .string ⟨#[99, 97, 108, 108]⟩, .int .i64 4, .int .i64 2, .string ⟨#[]⟩, .string ⟨#[]⟩,
    .string ⟨#[114, 101, 116]⟩, .int .i64 0, .int .i64 2, .string ⟨#[]⟩, .string ⟨#[]⟩,
    .string ⟨#[115, 112, 97, 119, 110]⟩, .int .i64 5, .int .i64 4, .string ⟨#[97, 108, 108]⟩, .string ⟨#[97]⟩,
    .string ⟨#[121, 105, 101, 108, 100]⟩, .int .i64 0, .int .i64 1, .string ⟨#[]⟩, .string ⟨#[]⟩,
    .string ⟨#[101, 120, 105, 116]⟩, .int .i64 0, .int .i64 1, .string ⟨#[]⟩, .string ⟨#[]⟩,
    .string ⟨#[115, 101, 108, 102]⟩, .int .i64 1, .int .i64 1, .string ⟨#[]⟩, .string ⟨#[97]⟩,
    .string ⟨#[110, 111, 119]⟩, .int .i64 1, .int .i64 1, .string ⟨#[]⟩, .string ⟨#[97]⟩,
    .string ⟨#[115, 108, 101, 101, 112]⟩, .int .i64 1, .int .i64 1, .string ⟨#[97]⟩, .string ⟨#[]⟩,
    .string ⟨#[109, 97, 107, 101]⟩, .int .i64 2, .int .i64 4, .string ⟨#[98]⟩, .string ⟨#[97]⟩,
    .string ⟨#[115, 101, 110, 100]⟩, .int .i64 2, .int .i64 2, .string ⟨#[97, 98]⟩, .string ⟨#[]⟩,
    .string ⟨#[114, 101, 99, 118]⟩, .int .i64 3, .int .i64 2, .string ⟨#[99]⟩, .string ⟨#[97, 98]⟩,
    .string ⟨#[99, 108, 111, 115, 101]⟩, .int .i64 1, .int .i64 2, .string ⟨#[97]⟩, .string ⟨#[]⟩,
    .string ⟨#[108, 101, 110]⟩, .int .i64 2, .int .i64 1, .string ⟨#[98]⟩, .string ⟨#[97]⟩,
    .string ⟨#[99, 97, 112]⟩, .int .i64 2, .int .i64 1, .string ⟨#[98]⟩, .string ⟨#[97]⟩,
    .string ⟨#[115, 101, 108, 101, 99, 116]⟩, .int .i64 5, .int .i64 4, .string ⟨#[97, 108, 108]⟩, .string ⟨#[97, 108, 108]⟩,
    .string ⟨#[108, 111, 99, 107]⟩, .int .i64 1, .int .i64 2, .string ⟨#[97]⟩, .string ⟨#[]⟩,
    .string ⟨#[117, 110, 108, 111, 99, 107]⟩, .int .i64 1, .int .i64 2, .string ⟨#[97]⟩, .string ⟨#[]⟩,
    .string ⟨#[114, 108, 111, 99, 107]⟩, .int .i64 1, .int .i64 2, .string ⟨#[97]⟩, .string ⟨#[]⟩,
    .string ⟨#[114, 117, 110, 108, 111, 99, 107]⟩, .int .i64 1, .int .i64 2, .string ⟨#[97]⟩, .string ⟨#[]⟩,
    .string ⟨#[119, 97, 100, 100]⟩, .int .i64 2, .int .i64 2, .string ⟨#[97, 98]⟩, .string ⟨#[]⟩,
    .string ⟨#[119, 100, 111, 110, 101]⟩, .int .i64 1, .int .i64 2, .string ⟨#[97]⟩, .string ⟨#[]⟩,
    .string ⟨#[119, 119, 97, 105, 116]⟩, .int .i64 1, .int .i64 2, .string ⟨#[97]⟩, .string ⟨#[]⟩,
    .string ⟨#[99, 119, 97, 105, 116]⟩, .int .i64 2, .int .i64 3, .string ⟨#[97, 98]⟩, .string ⟨#[]⟩,
    .string ⟨#[115, 105, 103, 110, 97, 108]⟩, .int .i64 1, .int .i64 2, .string ⟨#[97]⟩, .string ⟨#[]⟩,
    .string ⟨#[98, 114, 111, 97, 100, 99, 97, 115, 116]⟩, .int .i64 1, .int .i64 3, .string ⟨#[97]⟩, .string ⟨#[]⟩,
    .string ⟨#[97, 99, 113, 117, 105, 114, 101]⟩, .int .i64 1, .int .i64 2, .string ⟨#[97]⟩, .string ⟨#[]⟩,
    .string ⟨#[114, 101, 108, 101, 97, 115, 101]⟩, .int .i64 1, .int .i64 2, .string ⟨#[97]⟩, .string ⟨#[]⟩,
    .string ⟨#[108, 111, 97, 100]⟩, .int .i64 2, .int .i64 2, .string ⟨#[98]⟩, .string ⟨#[97]⟩,
    .string ⟨#[115, 116, 111, 114, 101]⟩, .int .i64 2, .int .i64 2, .string ⟨#[97, 98]⟩, .string ⟨#[]⟩,
    .string ⟨#[115, 119, 97, 112]⟩, .int .i64 3, .int .i64 3, .string ⟨#[97, 98, 99]⟩, .string ⟨#[97]⟩,
    .string ⟨#[102, 101, 116, 99, 104]⟩, .int .i64 3, .int .i64 3, .string ⟨#[98, 99]⟩, .string ⟨#[97]⟩,
    .string ⟨#[105, 110, 112, 117, 116]⟩, .int .i64 2, .int .i64 2, .string ⟨#[]⟩, .string ⟨#[97, 98]⟩,
    .string ⟨#[111, 117, 116, 112, 117, 116]⟩, .int .i64 1, .int .i64 2, .string ⟨#[97]⟩, .string ⟨#[]⟩,
    .string ⟨#[112, 117, 116]⟩, .int .i64 3, .int .i64 2, .string ⟨#[97, 98]⟩, .string ⟨#[99]⟩,
    .string ⟨#[103, 101, 116]⟩, .int .i64 3, .int .i64 2, .string ⟨#[99]⟩, .string ⟨#[97, 98]⟩,
    .string ⟨#[97, 102, 116, 101, 114]⟩, .int .i64 3, .int .i64 3, .string ⟨#[98, 99]⟩, .string ⟨#[97]⟩,
    .string ⟨#[101, 118, 101, 114, 121]⟩, .int .i64 3, .int .i64 3, .string ⟨#[98, 99]⟩, .string ⟨#[97]⟩,
    .string ⟨#[115, 116, 111, 112]⟩, .int .i64 2, .int .i64 2, .string ⟨#[98]⟩, .string ⟨#[97]⟩,
    .string ⟨#[116, 114, 97, 112]⟩, .int .i64 4, .int .i64 1, .string ⟨#[]⟩, .string ⟨#[]⟩]
def Z58 : Array Value := (Array.replicate 58 #[.string ⟨#[]⟩, .int .i64 0, .int .i64 0, .string ⟨#[]⟩, .string ⟨#[]⟩]).flatten
def opsOfRegion : Code → List Oper
  | .region _ ops _ => ops.toList
  | _ => []
def first : Code → Code
  | .seq a _ => a
  | c => c
def second : Code → Code
  | .seq _ b => b
  | c => c
noncomputable def bodyTable : Code := Try.f58.body.getD .skip
noncomputable def opsA : List Oper := opsOfRegion (first bodyTable)
noncomputable def opsB : List Oper := opsOfRegion (first (second bodyTable))
noncomputable def act0 : Act := { tmps := Array.replicate 60 undef, defers := [] }
noncomputable def actA (B : Nat) : Act := act0.put (some 0) (.pointer (some ⟨B, 0, none⟩))
noncomputable def actB (B : Nat) : Act := (quietOps Try.prog (opsB.take 59) (actA B)).getD act0

set_option maxHeartbeats 1000000 in
set_option maxRecDepth 100000 in
theorem table_calls (w : World) :
    Calls Try.prog 58 #[] w fun e w' => e = .returned (.agg T58) ∧ Below w.heap.size w w' := by
  have hbody : Try.f58.body = some (.seq (.region 0 opsA.toArray false) (.seq (.region 1 (opsB.take 59 ++ opsB.drop 59).toArray false) .ret)) := by kernel_rfl
  have hA : opsA = [opsA.headD default] := by kernel_rfl
  have hAr : ∀ W : World, (execOp act0.eval (opsA.headD default)).run Try.prog W = .ok (.value (.pointer (some ⟨W.heap.size, 0, none⟩))) (W.alloc (.cells Z58 111)) := fun W => by kernel_rfl
  have hAg : (opsA.headD default).guard = none := by kernel_rfl
  have hAd : (opsA.headD default).dst = some 0 := by kernel_rfl
  have hB : ∀ B, quietOps Try.prog (opsB.take 59) (actA B) = some (actB B) := fun B => by kernel_rfl
  have hB0 : ∀ B, (actB B).tmps.getD 0 undef = .pointer (some ⟨B, 0, none⟩) := fun B => by kernel_rfl
  have hB1 : ∀ B, (actB B).tmps.getD 59 undef = .agg T58 := fun B => by kernel_rfl
  have hB2 : ∀ B, (actB B).defers = [] := fun B => by kernel_rfl
  have hC : opsB.drop 59 = [(opsB.drop 59).headD default] := by kernel_rfl
  have hCo : ((opsB.drop 59).headD default).op = .store 111 (.tmp 0) (.tmp 59) := by kernel_rfl
  have hCg : ((opsB.drop 59).headD default).guard = none := by kernel_rfl
  have hCd : ((opsB.drop 59).headD default).dst = none := by kernel_rfl
  have hn : Try.f58.ntmps = 60 := by kernel_rfl
  have hact : (⟨#[] ++ Array.replicate (Try.f58.ntmps - (#[] : Array Value).size) undef, []⟩ : Act) = act0 := by kernel_rfl
  have hres : Try.f58.results = #[.cell 0 111] := by kernel_rfl
  refine calls_of_wp Try.func58 hbody ?_
  rw [hact]
  refine wp_seq (wp_region_list ?_)
  rw [List.toList_toArray]
  generalize hAeq : opsA.headD default = oA at *
  rw [hA]
  refine wpList_plain hAg fun K hK => ?_
  unfold Oper.wp
  rw [hAr w, Oper.upon_value, hAd]
  refine hK _ _ (wpList_nil ?_)
  show Code.wp _ _ _ _ _
  refine wp_seq (wp_region_list ?_)
  rw [List.toList_toArray]
  refine wpList_quiet _ _ (hB w.heap.size) ?_
  rw [hC]
  refine wpList_store_row hCg 111 (.tmp 0) (.tmp 59) hCo w.heap.size T58 (hB0 _) (hB1 _) 111 Z58 (heap_alloc_new _ _) (by kernel_rfl) (by kernel_rfl) (by kernel_rfl) ?_
  rw [hCd]
  refine wpList_nil ?_
  refine wp_ret ?_
  refine bodyPost_ret (results_cell_row hres _ _ w.heap.size 111 T58 (0, 0) _ (hB0 _) (setRow_heap _ _ _ _ _ _ (heap_alloc_new _ _)) Try.underlying111 rfl (by kernel_rfl)) (hB2 _) ⟨rfl, ?_⟩
  exact below_setRow ((Below.refl _ _).alloc (Nat.le_refl _) _) (Nat.le_refl _) _
end Go.Proofs.Ythjfmlehkcccfaa.Htab
end

section
/-
  What word.find, word.Find and word.mask come to.
-/
namespace Go.Proofs.Ythjfmlehkcccfaa.Hfind
open Go.RowKit Go.Proofs.Ythjfmlehkcccfaa.Htab Go.Proofs.YthjfmlehkcccfaaW.PrintWords

def row0 : ByteArray × Int × Int × ByteArray × ByteArray := (⟨#[]⟩, 0, 0, ⟨#[]⟩, ⟨#[]⟩)
def rowAt (k : Nat) : ByteArray × Int × Int × ByteArray × ByteArray := rows.getD k row0
def cellsOf (r : ByteArray × Int × Int × ByteArray × ByteArray) : Array Value := #[.string r.1, .int .i64 r.2.1, .int .i64 r.2.2.1, .string r.2.2.2.1, .string r.2.2.2.2]

theorem of_range {α : Type} (n : Nat) (f g : Nat → α) (h : (List.range n).map f = (List.range n).map g) (k : Nat) (hk : k < n) : f k = g k := by
  have := congrArg (fun l => l[k]?) h
  simpa [List.getElem?_map, List.getElem?_range hk] using this
theorem extract_at (k : Nat) (hk : k < 58) : T58.extract (k * 5) (k * 5 + 5) = cellsOf (rowAt k) :=
  of_range 58 (fun k => T58.extract (k * 5) (k * 5 + 5)) (fun k => cellsOf (rowAt k)) (by kernel_rfl) k hk
theorem index_at (k : Nat) (hk : k < 58) (w : World) : (Instr.index 111 (.agg T58) (.int .i64 k)).run Try.prog w = .ok (.agg (cellsOf (rowAt k))) w := by
  have h1 : ∀ w, ((sizeOf 102).run Try.prog w) = .ok 5 w := fun w => by kernel_rfl
  have h2 : ∀ w, ((isAgg 102).run Try.prog w) = .ok true w := fun w => by kernel_rfl
  have h3 := extract_at k hk
  have h4 : (k : Int) < 58 := by omega
  have hx : ∀ j : Int, 0 ≤ j → j < 58 → (Instr.index 111 (.agg T58) (.int .i64 j)).run Try.prog w = .ok (.agg (T58.extract (j.toNat * 5) (j.toNat * 5 + 5))) w := by
    intro j h0 h1'
    simp [Instr.index, asIntOf, run_underlying Try.underlying111, part, h1, h2, h0, h1']
  rw [hx k (by omega) h4, Int.toNat_natCast, h3]

theorem bcell {W w1 : World} (hb : Below W.heap.size W w1) : (∀ b o, b < W.heap.size → w1.cell? ⟨b, o, none⟩ = W.cell? ⟨b, o, none⟩) ∧ (∀ b o, b < W.heap.size → w1.frozen? ⟨b, o, none⟩ = W.frozen? ⟨b, o, none⟩) :=
  ⟨fun b o h => hb.cell (p := ⟨b, o, none⟩) h, fun b o h => hb.frozen (p := ⟨b, o, none⟩) h⟩

set_option maxHeartbeats 1000000 in
set_option maxRecDepth 100000 in
theorem find_in (k : Nat) (hk : k < 58) (w : World) :
    Calls Try.prog 51 #[.int .i64 (k + 1)] w fun e w' => e = .returned (.tuple #[.agg (cellsOf (rowAt k)), .int .i64 0]) ∧ Below w.heap.size w w' := by
  have hu := Try.underlying102
  have g0 : (0 : Int) ≤ k := by omega
  have g1 : (k : Int) < 58 := by omega
  have ix : ∀ w : World, (Instr.index 111 (.agg T58) (.int .i64 k)).run Try.prog w = .ok (.agg #[.string (rowAt k).1, .int .i64 (rowAt k).2.1, .int .i64 (rowAt k).2.2.1, .string (rowAt k).2.2.2.1, .string (rowAt k).2.2.2.2]) w := index_at k hk
  unfold cellsOf
  generalize rowAt k = r at ix ⊢
  go_enter Try.func51, Try.ntmps51
  go_wp2_with (first | (go_at_call 58; refine (table_calls _).mono ?_; rintro e w' ⟨rfl, hb⟩; obtain ⟨hc, hf⟩ := bcell hb))
  refine bodyPost_ret (results_ct rfl _ _ w.heap.size 102 #[.string r.1, .int .i64 r.2.1, .int .i64 r.2.2.1, .string r.2.2.2.1, .string r.2.2.2.2] (0, 0) _ rfl ?hb hu rfl (by kernel_rfl)) rfl ⟨rfl, ?_⟩
  case hb =>
    refine blk_put (cs := #[.string r.1, .int .i64 r.2.1, .int .i64 r.2.2.1, .string r.2.2.2.1, .string ⟨#[]⟩]) ?_ 4 _ rfl
    refine blk_put (cs := #[.string r.1, .int .i64 r.2.1, .int .i64 r.2.2.1, .string ⟨#[]⟩, .string ⟨#[]⟩]) ?_ 3 _ rfl
    refine blk_put (cs := #[.string r.1, .int .i64 r.2.1, .int .i64 0, .string ⟨#[]⟩, .string ⟨#[]⟩]) ?_ 2 _ rfl
    refine blk_put (cs := #[.string r.1, .int .i64 0, .int .i64 0, .string ⟨#[]⟩, .string ⟨#[]⟩]) ?_ 1 _ rfl
    refine blk_put (cs := #[.string ⟨#[]⟩, .int .i64 0, .int .i64 0, .string ⟨#[]⟩, .string ⟨#[]⟩]) ?_ 0 _ rfl
    exact blk_below (blk_new _ _) hb
  iterate 5 refine Below.setCell ?_ (Nat.le_refl w.heap.size) _
  refine Below.trans ((Below.refl w.heap.size w).alloc (Nat.le_refl _) _) (hb.mono ?_)
  rw [World.size_alloc]
  exact Nat.le_succ _

set_option maxHeartbeats 1000000 in
set_option maxRecDepth 100000 in
theorem find_out (n : Int) (h : n ≤ 0 ∨ 59 ≤ n) (w : World) :
    Calls Try.prog 51 #[.int .i64 n] w fun e w' => e = .returned (.tuple #[.agg (cellsOf row0), .int .i64 60]) ∧ Below w.heap.size w w' := by
  have hu := Try.underlying102
  unfold cellsOf row0
  rcases h with h | h
  all_goals
    go_enter Try.func51, Try.ntmps51
    go_wp2
    refine bodyPost_ret (results_ct rfl _ _ w.heap.size 102 #[.string ⟨#[]⟩, .int .i64 0, .int .i64 0, .string ⟨#[]⟩, .string ⟨#[]⟩] (0, 0) _ rfl ?_ hu rfl (by kernel_rfl)) rfl ⟨rfl, ?_⟩
    · exact blk_new _ _
    exact (Below.refl _ _).alloc (Nat.le_refl _) _
end Go.Proofs.Ythjfmlehkcccfaa.Hfind
end

section
-- laid by a program of this session (wip/gp.sh)
namespace Go.Proofs.Ythjfmlehkcccfaa.GA
open Go.RowKit Go.Proofs.YthjfmlehkcccfaaW.PrintWords Go.Proofs.YthjfmlehkcccfaaW.PrintLast Go.Proofs.YthjfmlehkcccfaaW.PrintMore
attribute [local go_sem] max2_int min2_int max_two min_two max_three min_three max_four min_four   -- for this text's walks alone
set_option linter.unusedVariables false
set_option linter.unusedSimpArgs false

/-! ### word_find: function 51 (its contract: by hand) -/
-- NEEDS Derived.Test.YthjfmlehkcccfaaHfind
-- its type: def word_find.f (a0 : Int) : Option (ByteArray × Int × Int × ByteArray × ByteArray × Int)
def word_find.f (a0 : Int) : Option (ByteArray × Int × Int × ByteArray × ByteArray × Int) :=
  if 1 ≤ a0 ∧ a0 ≤ 58 then some ((Hfind.rowAt (a0 - 1).toNat).1, (Hfind.rowAt (a0 - 1).toNat).2.1, (Hfind.rowAt (a0 - 1).toNat).2.2.1, (Hfind.rowAt (a0 - 1).toNat).2.2.2.1, (Hfind.rowAt (a0 - 1).toNat).2.2.2.2, 0)
  else some (⟨#[]⟩, 0, 0, ⟨#[]⟩, ⟨#[]⟩, 60)
set_option maxHeartbeats 8000000 in
set_option maxRecDepth 100000 in
theorem word_find.calls (a0 : Int) (r1 : ByteArray) (r2 : Int) (r3 : Int) (r4 : ByteArray) (r5 : ByteArray) (r6 : Int) (w : World) (h : word_find.f a0 = some (r1, r2, r3, r4, r5, r6)) :
    Calls Try.prog 51 #[.int .i64 a0] w fun e w' => e = .returned (.tuple #[.agg #[.string r1, .int .i64 r2, .int .i64 r3, .string r4, .string r5], .int .i64 r6]) ∧ Below w.heap.size w w' := by
  unfold word_find.f at h
  split at h
  · rename_i hr
    obtain ⟨k, hk⟩ : ∃ k : Nat, a0 - 1 = (k : Int) := ⟨(a0 - 1).toNat, by omega⟩
    obtain rfl : a0 = (k : Int) + 1 := by omega
    rw [hk, Int.toNat_natCast] at h
    simp only [Option.some.injEq, Prod.mk.injEq] at h
    obtain ⟨rfl, rfl, rfl, rfl, rfl, rfl⟩ := h
    exact Hfind.find_in k (by omega) w
  · rename_i hr
    simp only [Option.some.injEq, Prod.mk.injEq] at h
    obtain ⟨rfl, rfl, rfl, rfl, rfl, rfl⟩ := h
    exact Hfind.find_out a0 (by omega) w

end Go.Proofs.Ythjfmlehkcccfaa.GA
end

section
/-
  What word.fits comes to.
-/
namespace Go.Proofs.Ythjfmlehkcccfaa.Hfits
open Go.RowKit Go.Proofs.YthjfmlehkcccfaaW.PrintWords Go.Proofs.YthjfmlehkcccfaaW.PrintMore
theorem eqA37 (d : Nat) (w : World) (x0 y0 : Int) (x1 y1 : Int) (x2 y2 : Int) (x3 y3 : Int) (x4 y4 : Int) :
    (Op.equalIn (d + 2) 37 (.agg #[.int .i64 x0, .int .i64 x1, .int .i64 x2, .int .i64 x3, .int .i64 x4]) (.agg #[.int .i64 y0, .int .i64 y1, .int .i64 y2, .int .i64 y3, .int .i64 y4])).run Try.prog w = .ok (x0 == y0 && (x1 == y1 && (x2 == y2 && (x3 == y3 && (x4 == y4))))) w := by
  refine eqA_of Try.underlying37 (by kernel_rfl) ?_
  refine eqf_cons (by rfl) (by go_simp; rfl) (by go_simp; rfl) (by go_simp) ?_
  refine eqf_cons (by rfl) (by go_simp; rfl) (by go_simp; rfl) (by go_simp) ?_
  refine eqf_cons (by rfl) (by go_simp; rfl) (by go_simp; rfl) (by go_simp) ?_
  refine eqf_cons (by rfl) (by go_simp; rfl) (by go_simp; rfl) (by go_simp) ?_
  exact eqf_last (by rfl) (by go_simp; rfl) (by go_simp; rfl) (by go_simp)
attribute [local go_sem high] eqA37

def reg (n : Int) : Bool := decide (0 ≤ n) && decide (n < 16)
def fitsB (a b c m s : Int) : Bool :=
  if s = 0 then a == 0 && (b == 0 && (c == 0 && m == 0))
  else if s = 1 ∨ s = 2 ∨ s = 3 then (decide (¬ s < 2) || b == 0) && ((decide (¬ s < 3) || c == 0) && (reg a && (reg b && (reg c && m == 0))))
  else if s = 4 then a == 0 && (b == 0 && (c == 0 && (reg a && (decide (0 ≤ m) && decide (m < 65536)))))
  else if s = 6 then b == 0 && (c == 0 && (reg a && (decide (-32768 ≤ m) && decide (m < 32768))))
  else b == 0 && (c == 0 && (reg a && (decide (0 ≤ m) && decide (m < 65536))))

set_option maxHeartbeats 1000000 in
set_option maxRecDepth 100000 in
theorem register_calls (n : Int) (w : World) : Calls Try.prog 59 #[.int .i64 n] w fun e w' => e = .returned (.bool (reg n)) ∧ w = w' := by
  by_cases h : 0 ≤ n
  · go_enter Try.func59, Try.ntmps59
    go_wp2
    go_ret
    exact ⟨by simp [reg, h], rfl⟩
  · have hd : reg n = false := by simp [reg]; omega
    have HD := Lib.hid hd
    clear hd
    go_enter Try.func59, Try.ntmps59
    go_wp2
    go_ret
    exact ⟨by rw [HD.out]; rfl, rfl⟩

set_option maxHeartbeats 2000000 in
set_option maxRecDepth 100000 in
theorem fits0 (o a b c m : Int) (w : World) :
    Calls Try.prog 57 #[.agg #[.int .i64 o, .int .i64 a, .int .i64 b, .int .i64 c, .int .i64 m], .int .i64 0] w fun e w' => e = .returned (.bool (a == 0 && (b == 0 && (c == 0 && m == 0)))) ∧ Below w.heap.size w w' := by
  have hu := Try.underlying37
  go_enter Try.func57, Try.ntmps57
  go_wp2_with (first | (go_at_call 59; refine (register_calls _ _).mono ?_; rintro e w' ⟨rfl, rfl⟩))
  all_goals go_ret
  all_goals
    refine ⟨?_, ?_⟩
    · first | rfl | (simp_all; done) | (simp_all; omega)
    · repeat (first | exact Below.refl _ _ | refine Below.alloc ?_ (by simp) _ | refine Below.setCell ?_ (by simp) _ | refine Below.drew ?_)
set_option maxHeartbeats 2000000 in
set_option maxRecDepth 100000 in
theorem fits1 (o a b c m : Int) (w : World) :
    Calls Try.prog 57 #[.agg #[.int .i64 o, .int .i64 a, .int .i64 b, .int .i64 c, .int .i64 m], .int .i64 1] w fun e w' => e = .returned (.bool (b == 0 && (c == 0 && (reg a && (reg b && (reg c && m == 0)))))) ∧ Below w.heap.size w w' := by
  have hu := Try.underlying37
  go_enter Try.func57, Try.ntmps57
  go_wp2_with (first | (go_at_call 59; refine (register_calls _ _).mono ?_; rintro e w' ⟨rfl, rfl⟩))
  all_goals go_ret
  all_goals
    refine ⟨?_, ?_⟩
    · first | rfl | (simp_all; done) | (simp_all; omega)
    · repeat (first | exact Below.refl _ _ | refine Below.alloc ?_ (by simp) _ | refine Below.setCell ?_ (by simp) _ | refine Below.drew ?_)
set_option maxHeartbeats 2000000 in
set_option maxRecDepth 100000 in
theorem fits2 (o a b c m : Int) (w : World) :
    Calls Try.prog 57 #[.agg #[.int .i64 o, .int .i64 a, .int .i64 b, .int .i64 c, .int .i64 m], .int .i64 2] w fun e w' => e = .returned (.bool (c == 0 && (reg a && (reg b && (reg c && m == 0))))) ∧ Below w.heap.size w w' := by
  have hu := Try.underlying37
  go_enter Try.func57, Try.ntmps57
  go_wp2_with (first | (go_at_call 59; refine (register_calls _ _).mono ?_; rintro e w' ⟨rfl, rfl⟩))
  all_goals go_ret
  all_goals
    refine ⟨?_, ?_⟩
    · first | rfl | (simp_all; done) | (simp_all; omega)
    · repeat (first | exact Below.refl _ _ | refine Below.alloc ?_ (by simp) _ | refine Below.setCell ?_ (by simp) _ | refine Below.drew ?_)
set_option maxHeartbeats 2000000 in
set_option maxRecDepth 100000 in
theorem fits3 (o a b c m : Int) (w : World) :
    Calls Try.prog 57 #[.agg #[.int .i64 o, .int .i64 a, .int .i64 b, .int .i64 c, .int .i64 m], .int .i64 3] w fun e w' => e = .returned (.bool (reg a && (reg b && (reg c && m == 0)))) ∧ Below w.heap.size w w' := by
  have hu := Try.underlying37
  go_enter Try.func57, Try.ntmps57
  go_wp2_with (first | (go_at_call 59; refine (register_calls _ _).mono ?_; rintro e w' ⟨rfl, rfl⟩))
  all_goals go_ret
  all_goals
    refine ⟨?_, ?_⟩
    · first | rfl | (simp_all; done) | (simp_all; omega)
    · repeat (first | exact Below.refl _ _ | refine Below.alloc ?_ (by simp) _ | refine Below.setCell ?_ (by simp) _ | refine Below.drew ?_)
set_option maxHeartbeats 2000000 in
set_option maxRecDepth 100000 in
theorem fits4 (o a b c m : Int) (w : World) :
    Calls Try.prog 57 #[.agg #[.int .i64 o, .int .i64 a, .int .i64 b, .int .i64 c, .int .i64 m], .int .i64 4] w fun e w' => e = .returned (.bool (a == 0 && (b == 0 && (c == 0 && (reg a && (decide (0 ≤ m) && decide (m < 65536))))))) ∧ Below w.heap.size w w' := by
  have hu := Try.underlying37
  go_enter Try.func57, Try.ntmps57
  go_wp2_with (first | (go_at_call 59; refine (register_calls _ _).mono ?_; rintro e w' ⟨rfl, rfl⟩))
  all_goals go_ret
  all_goals
    refine ⟨?_, ?_⟩
    · first | rfl | (simp_all; done) | (simp_all; omega)
    · repeat (first | exact Below.refl _ _ | refine Below.alloc ?_ (by simp) _ | refine Below.setCell ?_ (by simp) _ | refine Below.drew ?_)
set_option maxHeartbeats 2000000 in
set_option maxRecDepth 100000 in
theorem fits6 (o a b c m : Int) (w : World) :
    Calls Try.prog 57 #[.agg #[.int .i64 o, .int .i64 a, .int .i64 b, .int .i64 c, .int .i64 m], .int .i64 6] w fun e w' => e = .returned (.bool (b == 0 && (c == 0 && (reg a && (decide (-32768 ≤ m) && decide (m < 32768)))))) ∧ Below w.heap.size w w' := by
  have hu := Try.underlying37
  go_enter Try.func57, Try.ntmps57
  go_wp2_with (first | (go_at_call 59; refine (register_calls _ _).mono ?_; rintro e w' ⟨rfl, rfl⟩))
  go_region
  all_goals go_wp2_with (first | (go_at_call 59; refine (register_calls _ _).mono ?_; rintro e w' ⟨rfl, rfl⟩))
  all_goals go_ret
  all_goals
    refine ⟨?_, ?_⟩
    · first | rfl | (simp_all; done) | (simp_all; omega)
    · repeat (first | exact Below.refl _ _ | refine Below.alloc ?_ (by simp) _ | refine Below.setCell ?_ (by simp) _ | refine Below.drew ?_)
set_option maxHeartbeats 2000000 in
set_option maxRecDepth 100000 in
theorem fitsE (o a b c m s : Int) (h : s ≠ 0 ∧ s ≠ 1 ∧ s ≠ 2 ∧ s ≠ 3 ∧ s ≠ 4 ∧ s ≠ 6) (w : World) :
    Calls Try.prog 57 #[.agg #[.int .i64 o, .int .i64 a, .int .i64 b, .int .i64 c, .int .i64 m], .int .i64 s] w fun e w' => e = .returned (.bool (b == 0 && (c == 0 && (reg a && (decide (0 ≤ m) && decide (m < 65536)))))) ∧ Below w.heap.size w w' := by
  have hu := Try.underlying37
  obtain ⟨h0, h1, h2, h3, h4, h6⟩ := h
  replace h0 : (s == 0) = false := beq_eq_false_iff_ne.2 h0
  replace h1 : (s == 1) = false := beq_eq_false_iff_ne.2 h1
  replace h2 : (s == 2) = false := beq_eq_false_iff_ne.2 h2
  replace h3 : (s == 3) = false := beq_eq_false_iff_ne.2 h3
  replace h4 : (s == 4) = false := beq_eq_false_iff_ne.2 h4
  replace h6 : (s == 6) = false := beq_eq_false_iff_ne.2 h6
  go_enter Try.func57, Try.ntmps57
  go_wp2_with (first | (go_at_call 59; refine (register_calls _ _).mono ?_; rintro e w' ⟨rfl, rfl⟩))
  go_region
  all_goals go_wp2_with (first | (go_at_call 59; refine (register_calls _ _).mono ?_; rintro e w' ⟨rfl, rfl⟩))
  all_goals go_ret
  all_goals
    refine ⟨?_, ?_⟩
    · first | rfl | (simp_all; done) | (simp_all; omega)
    · repeat (first | exact Below.refl _ _ | refine Below.alloc ?_ (by simp) _ | refine Below.setCell ?_ (by simp) _ | refine Below.drew ?_)
end Go.Proofs.Ythjfmlehkcccfaa.Hfits
end

section
-- laid by a program of this session (wip/gp.sh)
namespace Go.Proofs.Ythjfmlehkcccfaa.GA
open Go.RowKit Go.Proofs.YthjfmlehkcccfaaW.PrintWords Go.Proofs.YthjfmlehkcccfaaW.PrintLast Go.Proofs.YthjfmlehkcccfaaW.PrintMore
attribute [local go_sem] max2_int min2_int max_two min_two max_three min_three max_four min_four   -- for this text's walks alone
set_option linter.unusedVariables false
set_option linter.unusedSimpArgs false

/-! ### word_fits: function 57 (its contract: by hand) -/
-- NEEDS Derived.Test.YthjfmlehkcccfaaHfits
-- its type: def word_fits.f (a0_0 : Int) (a0_1 : Int) (a0_2 : Int) (a0_3 : Int) (a0_4 : Int) (a1 : Int) : Option (Bool)
def word_fits.f (a0_0 : Int) (a0_1 : Int) (a0_2 : Int) (a0_3 : Int) (a0_4 : Int) (a1 : Int) : Option (Bool) := some (Hfits.fitsB a0_1 a0_2 a0_3 a0_4 a1)
set_option maxHeartbeats 8000000 in
set_option maxRecDepth 100000 in
theorem word_fits.calls (a0_0 : Int) (a0_1 : Int) (a0_2 : Int) (a0_3 : Int) (a0_4 : Int) (a1 : Int) (r : Bool) (w : World) (h : word_fits.f a0_0 a0_1 a0_2 a0_3 a0_4 a1 = some r) :
    Calls Try.prog 57 #[.agg #[.int .i64 a0_0, .int .i64 a0_1, .int .i64 a0_2, .int .i64 a0_3, .int .i64 a0_4], .int .i64 a1] w fun e w' => e = .returned (.bool r) ∧ Below w.heap.size w w' := by
  obtain rfl := Option.some.inj h
  by_cases h0 : a1 = 0
  · subst h0; exact Hfits.fits0 a0_0 a0_1 a0_2 a0_3 a0_4 w
  by_cases h1 : a1 = 1
  · subst h1; exact (Hfits.fits1 a0_0 a0_1 a0_2 a0_3 a0_4 w)
  by_cases h2 : a1 = 2
  · subst h2; exact (Hfits.fits2 a0_0 a0_1 a0_2 a0_3 a0_4 w)
  by_cases h3 : a1 = 3
  · subst h3; exact (Hfits.fits3 a0_0 a0_1 a0_2 a0_3 a0_4 w)
  by_cases h4 : a1 = 4
  · subst h4; exact (Hfits.fits4 a0_0 a0_1 a0_2 a0_3 a0_4 w)
  by_cases h6 : a1 = 6
  · subst h6; exact (Hfits.fits6 a0_0 a0_1 a0_2 a0_3 a0_4 w)
  have e : Hfits.fitsB a0_1 a0_2 a0_3 a0_4 a1 = (a0_2 == 0 && (a0_3 == 0 && (Hfits.reg a0_1 && (decide (0 ≤ a0_4) && decide (a0_4 < 65536))))) := by
    unfold Hfits.fitsB
    rw [if_neg h0, if_neg (by omega), if_neg h4, if_neg h6]
  rw [e]
  exact Hfits.fitsE a0_0 a0_1 a0_2 a0_3 a0_4 a1 ⟨h0, h1, h2, h3, h4, h6⟩ w

end Go.Proofs.Ythjfmlehkcccfaa.GA
end

section
/-
  The program's Decode, walked.
-/
set_option linter.unusedVariables false
set_option linter.unusedSimpArgs false
namespace Go.Proofs.Ythjfmlehkcccfaa.GA
open Go.RowKit Go.Proofs.YthjfmlehkcccfaaW.PrintWords Go.Proofs.YthjfmlehkcccfaaW.PrintLast Go.Proofs.YthjfmlehkcccfaaW.PrintMore Hctx

def word_Decode.f (a0 : Int) : Option (Int × Int × Int × Int × Int × Int) := (word_find.f (wrap64 (a0 / 16777216))).bind fun bt103 => (if bt103.2.2.2.2.2 = 0 then (if bt103.2.1 = 6 then ((word_fits.f (wrap64 (a0 / 16777216)) (wrap64 (Go.bits .and .u32 (a0 / 1048576) 15)) (wrap64 (Go.bits .and .u32 (a0 / 65536) 15)) 0 (wrap64 (IntKind.i16.wrap (a0))) bt103.2.1).bind fun t110 => (if t110 = true then (some (wrap64 (a0 / 16777216), wrap64 (Go.bits .and .u32 (a0 / 1048576) 15), wrap64 (Go.bits .and .u32 (a0 / 65536) 15), 0, wrap64 (IntKind.i16.wrap (a0)), 0)) else (some (0, 0, 0, 0, 0, 61)))) else (if bt103.2.1 = 3 then ((word_fits.f (wrap64 (a0 / 16777216)) (wrap64 (Go.bits .and .u32 (a0 / 1048576) 15)) (wrap64 (Go.bits .and .u32 (a0 / 65536) 15)) (wrap64 (Go.bits .and .u32 a0 15)) (wrap64 (Go.bits .and .u32 a0 65520)) bt103.2.1).bind fun t111 => (if t111 = true then (some (wrap64 (a0 / 16777216), wrap64 (Go.bits .and .u32 (a0 / 1048576) 15), wrap64 (Go.bits .and .u32 (a0 / 65536) 15), wrap64 (Go.bits .and .u32 a0 15), wrap64 (Go.bits .and .u32 a0 65520), 0)) else (some (0, 0, 0, 0, 0, 61)))) else ((word_fits.f (wrap64 (a0 / 16777216)) (wrap64 (Go.bits .and .u32 (a0 / 1048576) 15)) (wrap64 (Go.bits .and .u32 (a0 / 65536) 15)) 0 (wrap64 (Go.bits .and .u32 a0 65535)) bt103.2.1).bind fun t112 => (if t112 = true then (some (wrap64 (a0 / 16777216), wrap64 (Go.bits .and .u32 (a0 / 1048576) 15), wrap64 (Go.bits .and .u32 (a0 / 65536) 15), 0, wrap64 (Go.bits .and .u32 a0 65535), 0)) else (some (0, 0, 0, 0, 0, 61)))))) else (some (0, 0, 0, 0, 0, bt103.2.2.2.2.2)))
set_option maxHeartbeats 2000000 in
set_option maxRecDepth 100000 in
theorem word_Decode.calls (a0 : Int) (r1 : Int) (r2 : Int) (r3 : Int) (r4 : Int) (r5 : Int) (r6 : Int) (w : World) (h : word_Decode.f a0 = some (r1, r2, r3, r4, r5, r6)) :
    Calls Try.prog 48 #[.int .u32 a0] w fun e w' => e = .returned (.tuple #[.agg #[.int .i64 r1, .int .i64 r2, .int .i64 r3, .int .i64 r4, .int .i64 r5], .int .i64 r6]) ∧ Below w.heap.size w w' := by
  have hu37 := Try.underlying37
  unfold word_Decode.f at h
  obtain ⟨⟨t103, t104, t105, t106, t107, t108⟩, hA, h⟩ := Option.bind_eq_some_iff.mp h
  dsimp only at h
  have HA := Lib.hid hA
  clear hA
  have H := Lib.hid h
  clear h
  have M0 := Aside0.mk (Mem.start 3 w)
  go_enter Try.func48, Try.ntmps48
  go_wp2_with (first
      | (refine eB M0 2 #[.int .i64 0, .int .i64 0, .int .i64 0, .int .i64 0, .int .i64 0] 37 ?_; clear M0; intro g2 w2 M1)
      | (refine eB M1 4 #[.int .i64 0, .int .i64 0, .int .i64 0, .int .i64 0, .int .i64 0] 37 ?_; clear M1; intro g4 w4 M2)
      | (refine eR M2 37 4 1 #[_, _, _, .int .i64 0, .int .i64 0] ?_; clear M2; intro w_ M3)
      | (refine eC M3 21 1 0 (_) ?_))
  refine (word_find.calls _ _ _ _ _ _ _ _ HA.out).mono ?_
  rintro e W22 ⟨rfl, hb⟩
  have M4 := Aside0.mk (Mem.call M3.out hb)
  clear M3 hb
  by_cases bA : t108 = 0
  · have h := H.out
    clear H
    rw [if_pos bA] at h
    have H := Lib.hid h
    clear h
    have e1 : (t108 != 0) = false := bne_eq_false_iff_eq.mpr bA
    clear bA
    by_cases bB : t104 = 6
    · have h := H.out
      clear H
      rw [if_pos bB] at h
      have H := Lib.hid h
      clear h
      have h := H.out
      clear H
      obtain ⟨tf, hB, h⟩ := Option.bind_eq_some_iff.mp h
      have HB := Lib.hid hB
      clear hB
      have H := Lib.hid h
      clear h
      have e2 : (t104 == 6) = true := beq_iff_eq.mpr bB
      clear bB
      go_wp2_with (first
          | (refine eB M4 5 #[.string ⟨#[]⟩, .int .i64 0, .int .i64 0, .string ⟨#[]⟩, .string ⟨#[]⟩] 102 ?_; clear M4; intro g5 w5 M5)
          | (refine eR M5 102 5 2 #[.string t103, .int .i64 t104, .int .i64 t105, .string t106, .string t107] ?_; clear M5; intro w_ M6)
          | (refine eC M6 30 2 1 (.int .i64 t104) ?_)
          | (refine eS M6 3 40 1 4 (_) #[_, _, _, .int .i64 0, _] ?_; clear M6; intro w_ M7)
          | (refine eL M7 51 1 hu37 ?_)
          | (refine eC M7 53 2 1 (.int .i64 t104) ?_))
      refine (word_fits.calls _ _ _ _ _ _ _ _ HB.out).mono ?_
      rintro e W54 ⟨rfl, hb⟩
      have M8 := Aside0.mk (Mem.call M7.out hb)
      clear M7 hb
      by_cases bD : tf = true
      · subst bD
        have h := H.out
        clear H
        rw [if_pos rfl] at h
        have H := Lib.hid h
        clear h
        go_wp2_with (first
            | (refine eL M8 57 1 hu37 ?_)
            | (refine eR M8 37 2 0 #[_, _, _, .int .i64 0, _] ?_; clear M8; intro w_ M9))
        have h := H.out
        clear H
        simp only [Option.some.injEq, Prod.mk.injEq] at h
        obtain ⟨rfl, rfl, rfl, rfl, rfl, rfl⟩ := h
        exact bodyPost_ret (results_ct rfl _ _ g2 37 _ (0, 0) _ rfl (M9.out.at 0 rfl) Try.underlying37 rfl (by kernel_rfl)) rfl ⟨rfl, M9.out.below⟩
      · replace bD := Bool.eq_false_iff.mpr bD
        subst bD
        have h := H.out
        clear H
        rw [if_neg (by decide)] at h
        have H := Lib.hid h
        clear h
        go_wp2_with (first
            | (refine eR M8 37 2 0 #[.int .i64 0, .int .i64 0, .int .i64 0, .int .i64 0, .int .i64 0] ?_; clear M8; intro w_ M9))
        have h := H.out
        clear H
        simp only [Option.some.injEq, Prod.mk.injEq] at h
        obtain ⟨rfl, rfl, rfl, rfl, rfl, rfl⟩ := h
        exact bodyPost_ret (results_ct rfl _ _ g2 37 _ (0, 0) _ rfl (M9.out.at 0 rfl) Try.underlying37 rfl (by kernel_rfl)) rfl ⟨rfl, M9.out.below⟩
    · have h := H.out
      clear H
      rw [if_neg bB] at h
      have H := Lib.hid h
      clear h
      have e2 : (t104 == 6) = false := beq_eq_false_iff_ne.mpr bB
      clear bB
      by_cases bC : t104 = 3
      · have h := H.out
        clear H
        rw [if_pos bC] at h
        have H := Lib.hid h
        clear h
        have h := H.out
        clear H
        obtain ⟨tf, hB, h⟩ := Option.bind_eq_some_iff.mp h
        have HB := Lib.hid hB
        clear hB
        have H := Lib.hid h
        clear h
        have e3 : (t104 == 3) = true := beq_iff_eq.mpr bC
        clear bC
        go_wp2_with (first
            | (refine eB M4 5 #[.string ⟨#[]⟩, .int .i64 0, .int .i64 0, .string ⟨#[]⟩, .string ⟨#[]⟩] 102 ?_; clear M4; intro g5 w5 M5)
            | (refine eR M5 102 5 2 #[.string t103, .int .i64 t104, .int .i64 t105, .string t106, .string t107] ?_; clear M5; intro w_ M6)
            | (refine eC M6 30 2 1 (.int .i64 t104) ?_)
            | (refine eS M6 3 49 1 3 (_) #[_, _, _, _, .int .i64 0] ?_; clear M6; intro w_ M7)
            | (refine eS M7 3 50 1 4 (_) #[_, _, _, _, _] ?_; clear M7; intro w_ M8)
            | (refine eL M8 51 1 hu37 ?_)
            | (refine eC M8 53 2 1 (.int .i64 t104) ?_))
        refine (word_fits.calls _ _ _ _ _ _ _ _ HB.out).mono ?_
        rintro e W54 ⟨rfl, hb⟩
        have M9 := Aside0.mk (Mem.call M8.out hb)
        clear M8 hb
        by_cases bD : tf = true
        · subst bD
          have h := H.out
          clear H
          rw [if_pos rfl] at h
          have H := Lib.hid h
          clear h
          go_wp2_with (first
              | (refine eL M9 57 1 hu37 ?_)
              | (refine eR M9 37 2 0 #[_, _, _, _, _] ?_; clear M9; intro w_ M10))
          have h := H.out
          clear H
          simp only [Option.some.injEq, Prod.mk.injEq] at h
          obtain ⟨rfl, rfl, rfl, rfl, rfl, rfl⟩ := h
          exact bodyPost_ret (results_ct rfl _ _ g2 37 _ (0, 0) _ rfl (M10.out.at 0 rfl) Try.underlying37 rfl (by kernel_rfl)) rfl ⟨rfl, M10.out.below⟩
        · replace bD := Bool.eq_false_iff.mpr bD
          subst bD
          have h := H.out
          clear H
          rw [if_neg (by decide)] at h
          have H := Lib.hid h
          clear h
          go_wp2_with (first
              | (refine eR M9 37 2 0 #[.int .i64 0, .int .i64 0, .int .i64 0, .int .i64 0, .int .i64 0] ?_; clear M9; intro w_ M10))
          have h := H.out
          clear H
          simp only [Option.some.injEq, Prod.mk.injEq] at h
          obtain ⟨rfl, rfl, rfl, rfl, rfl, rfl⟩ := h
          exact bodyPost_ret (results_ct rfl _ _ g2 37 _ (0, 0) _ rfl (M10.out.at 0 rfl) Try.underlying37 rfl (by kernel_rfl)) rfl ⟨rfl, M10.out.below⟩
      · have h := H.out
        clear H
        rw [if_neg bC] at h
        have H := Lib.hid h
        clear h
        have h := H.out
        clear H
        obtain ⟨tf, hB, h⟩ := Option.bind_eq_some_iff.mp h
        have HB := Lib.hid hB
        clear hB
        have H := Lib.hid h
        clear h
        have e3 : (t104 == 3) = false := beq_eq_false_iff_ne.mpr bC
        clear bC
        go_wp2_with (first
            | (refine eB M4 5 #[.string ⟨#[]⟩, .int .i64 0, .int .i64 0, .string ⟨#[]⟩, .string ⟨#[]⟩] 102 ?_; clear M4; intro g5 w5 M5)
            | (refine eR M5 102 5 2 #[.string t103, .int .i64 t104, .int .i64 t105, .string t106, .string t107] ?_; clear M5; intro w_ M6)
            | (refine eC M6 30 2 1 (.int .i64 t104) ?_)
            | (refine eS M6 3 34 1 4 (_) #[_, _, _, .int .i64 0, _] ?_; clear M6; intro w_ M7)
            | (refine eL M7 51 1 hu37 ?_)
            | (refine eC M7 53 2 1 (.int .i64 t104) ?_))
        refine (word_fits.calls _ _ _ _ _ _ _ _ HB.out).mono ?_
        rintro e W54 ⟨rfl, hb⟩
        have M8 := Aside0.mk (Mem.call M7.out hb)
        clear M7 hb
        by_cases bD : tf = true
        · subst bD
          have h := H.out
          clear H
          rw [if_pos rfl] at h
          have H := Lib.hid h
          clear h
          go_wp2_with (first
              | (refine eL M8 57 1 hu37 ?_)
              | (refine eR M8 37 2 0 #[_, _, _, .int .i64 0, _] ?_; clear M8; intro w_ M9))
          have h := H.out
          clear H
          simp only [Option.some.injEq, Prod.mk.injEq] at h
          obtain ⟨rfl, rfl, rfl, rfl, rfl, rfl⟩ := h
          exact bodyPost_ret (results_ct rfl _ _ g2 37 _ (0, 0) _ rfl (M9.out.at 0 rfl) Try.underlying37 rfl (by kernel_rfl)) rfl ⟨rfl, M9.out.below⟩
        · replace bD := Bool.eq_false_iff.mpr bD
          subst bD
          have h := H.out
          clear H
          rw [if_neg (by decide)] at h
          have H := Lib.hid h
          clear h
          go_wp2_with (first
              | (refine eR M8 37 2 0 #[.int .i64 0, .int .i64 0, .int .i64 0, .int .i64 0, .int .i64 0] ?_; clear M8; intro w_ M9))
          have h := H.out
          clear H
          simp only [Option.some.injEq, Prod.mk.injEq] at h
          obtain ⟨rfl, rfl, rfl, rfl, rfl, rfl⟩ := h
          exact bodyPost_ret (results_ct rfl _ _ g2 37 _ (0, 0) _ rfl (M9.out.at 0 rfl) Try.underlying37 rfl (by kernel_rfl)) rfl ⟨rfl, M9.out.below⟩
  · have h := H.out
    clear H
    rw [if_neg bA] at h
    have H := Lib.hid h
    clear h
    have e1 : (t108 != 0) = true := bne_iff_ne.mpr bA
    clear bA
    go_wp2_with (first
        | (refine eB M4 5 #[.string ⟨#[]⟩, .int .i64 0, .int .i64 0, .string ⟨#[]⟩, .string ⟨#[]⟩] 102 ?_; clear M4; intro g5 w5 M5)
        | (refine eR M5 102 5 2 #[.string t103, .int .i64 t104, .int .i64 t105, .string t106, .string t107] ?_; clear M5; intro w_ M6)
        | (refine eR M6 37 2 0 #[.int .i64 0, .int .i64 0, .int .i64 0, .int .i64 0, .int .i64 0] ?_; clear M6; intro w_ M7))
    have h := H.out
    clear H
    simp only [Option.some.injEq, Prod.mk.injEq] at h
    obtain ⟨rfl, rfl, rfl, rfl, rfl, rfl⟩ := h
    exact bodyPost_ret (results_ct rfl _ _ g2 37 _ (0, 0) _ rfl (M7.out.at 0 rfl) Try.underlying37 rfl (by kernel_rfl)) rfl ⟨rfl, M7.out.below⟩

end Go.Proofs.Ythjfmlehkcccfaa.GA
end

section
/-
  The next instruction, walked.
-/
set_option linter.unusedVariables false
set_option linter.unusedSimpArgs false
namespace Go.Proofs.Ythjfmlehkcccfaa.GA
open Go.RowKit Go.Proofs.YthjfmlehkcccfaaW.PrintWords Go.Proofs.YthjfmlehkcccfaaW.PrintLast Go.Proofs.YthjfmlehkcccfaaW.PrintMore Hctx

def step_next.f (l0_0 : List Int) (l0_1 : List (S75)) (l0_2 : List (S98)) (a1_0 : Int) (a1_1 : Int) (a1_2 : Int) (a1_3 : Int) (a1_4 : Int) (a1_5 : Int) (a1_6 : Int) (a1_7 : Int) (a1_8 : Int) (a1_9 : Int) (a1_10 : Int) (a1_11 : Int) (a1_12 : Int) (a1_13 : Int) (a1_14 : Int) (a1_15 : Int) (a1_16 : Int) (l1_17 : List Int) : Option (Int × Int × Int × Int × Int × Bool) := if a1_0 < 0 then (some (0, 0, 0, 0, 0, false)) else (if a1_0 ≥ (l0_0.length : Int) then (some (0, 0, 0, 0, 0, false)) else (if 0 ≤ a1_0 then (if a1_0 < (l0_0.length : Int) then ((word_Decode.f (rd l0_0 a1_0)).bind fun bt117 => (some (bt117.1, bt117.2.1, bt117.2.2.1, bt117.2.2.2.1, bt117.2.2.2.2.1, (bt117.2.2.2.2.2 == 0)))) else (none)) else (none)))
set_option maxHeartbeats 2000000 in
set_option maxRecDepth 100000 in
theorem step_next.calls (A0_0 : Option Addr) (c0_0 : Nat) (l0_0 : List Int) (A0_1 : Option Addr) (c0_1 : Nat) (l0_1 : List (S75)) (A0_2 : Option Addr) (c0_2 : Nat) (l0_2 : List (S98)) (a1_0 : Int) (a1_1 : Int) (a1_2 : Int) (a1_3 : Int) (a1_4 : Int) (a1_5 : Int) (a1_6 : Int) (a1_7 : Int) (a1_8 : Int) (a1_9 : Int) (a1_10 : Int) (a1_11 : Int) (a1_12 : Int) (a1_13 : Int) (a1_14 : Int) (a1_15 : Int) (a1_16 : Int) (A1_17 : Option Addr) (c1_17 : Nat) (l1_17 : List Int) (r1 : Int) (r2 : Int) (r3 : Int) (r4 : Int) (r5 : Int) (r6 : Bool) (w : World) (hr0_0 : Kd.C (Kd.int .u32) w A0_0 l0_0.length l0_0) (hc0_0 : l0_0.length ≤ c0_0) (hr0_1 : Kd.C k75 w A0_1 l0_1.length l0_1) (hc0_1 : l0_1.length ≤ c0_1) (hr0_2 : Kd.C k98 w A0_2 l0_2.length l0_2) (hc0_2 : l0_2.length ≤ c0_2) (hr1_17 : Kd.C (Kd.int .i64) w A1_17 l1_17.length l1_17) (hc1_17 : l1_17.length ≤ c1_17) (h : step_next.f l0_0 l0_1 l0_2 a1_0 a1_1 a1_2 a1_3 a1_4 a1_5 a1_6 a1_7 a1_8 a1_9 a1_10 a1_11 a1_12 a1_13 a1_14 a1_15 a1_16 l1_17 = some (r1, r2, r3, r4, r5, r6)) :
    Calls Try.prog 25 #[.agg #[.slice A0_0 l0_0.length c0_0, .slice A0_1 l0_1.length c0_1, .slice A0_2 l0_2.length c0_2], .agg #[.int .i64 a1_0, .int .i64 a1_1, .int .i64 a1_2, .int .i64 a1_3, .int .i64 a1_4, .int .i64 a1_5, .int .i64 a1_6, .int .i64 a1_7, .int .i64 a1_8, .int .i64 a1_9, .int .i64 a1_10, .int .i64 a1_11, .int .i64 a1_12, .int .i64 a1_13, .int .i64 a1_14, .int .i64 a1_15, .int .i64 a1_16, .slice A1_17 l1_17.length c1_17]] w fun e w' => e = .returned (.tuple #[.agg #[.int .i64 r1, .int .i64 r2, .int .i64 r3, .int .i64 r4, .int .i64 r5], .bool r6]) ∧ Below w.heap.size w w' := by
  have hu37 := Try.underlying37
  unfold step_next.f at h
  have H := Lib.hid h
  clear h
  have HC := Lib.hid hr0_0
  clear hr0_0 hr0_1 hr0_2 hr1_17
  have M0 := Aside0.mk (Mem.start 3 w)
  go_enter Try.func25, Try.ntmps25
  by_cases b0 : a1_0 < 0
  · have h := H.out
    clear H
    rw [if_pos b0] at h
    have H := Lib.hid h
    clear h
    go_wp2_with (first
        | (refine eB M0 2 #[.slice A0_0 l0_0.length c0_0, .slice A0_1 l0_1.length c0_1, .slice A0_2 l0_2.length c0_2] 26 ?_; clear M0; intro g2 w2 M1)
        | (refine eB M1 3 #[.int .i64 a1_0, .int .i64 a1_1, .int .i64 a1_2, .int .i64 a1_3, .int .i64 a1_4, .int .i64 a1_5, .int .i64 a1_6, .int .i64 a1_7, .int .i64 a1_8, .int .i64 a1_9, .int .i64 a1_10, .int .i64 a1_11, .int .i64 a1_12, .int .i64 a1_13, .int .i64 a1_14, .int .i64 a1_15, .int .i64 a1_16, .slice A1_17 l1_17.length c1_17] 30 ?_; clear M1; intro g3 w3 M2)
        | (refine eB M2 4 #[.int .i64 0, .int .i64 0, .int .i64 0, .int .i64 0, .int .i64 0] 37 ?_; clear M2; intro g4 w4 M3)
        | (refine eC M3 9 1 0 (.int .i64 a1_0) ?_)
        | (refine eR M3 37 4 2 #[.int .i64 0, .int .i64 0, .int .i64 0, .int .i64 0, .int .i64 0] ?_; clear M3; intro w_ M4))
    have h := H.out
    clear H
    simp only [Option.some.injEq, Prod.mk.injEq] at h
    obtain ⟨rfl, rfl, rfl, rfl, rfl, rfl⟩ := h
    exact bodyPost_ret (results_ct rfl _ _ g4 37 _ (0, 0) _ rfl (M4.out.at 2 rfl) Try.underlying37 rfl (by kernel_rfl)) rfl ⟨rfl, M4.out.below⟩
  · have h := H.out
    clear H
    rw [if_neg b0] at h
    have H := Lib.hid h
    clear h
    have b3 : 0 ≤ a1_0 := by omega
    by_cases b1 : a1_0 ≥ (l0_0.length : Int)
    · have h := H.out
      clear H
      rw [if_pos b1] at h
      have H := Lib.hid h
      clear h
      go_wp2_with (first
          | (refine eB M0 2 #[.slice A0_0 l0_0.length c0_0, .slice A0_1 l0_1.length c0_1, .slice A0_2 l0_2.length c0_2] 26 ?_; clear M0; intro g2 w2 M1)
          | (refine eB M1 3 #[.int .i64 a1_0, .int .i64 a1_1, .int .i64 a1_2, .int .i64 a1_3, .int .i64 a1_4, .int .i64 a1_5, .int .i64 a1_6, .int .i64 a1_7, .int .i64 a1_8, .int .i64 a1_9, .int .i64 a1_10, .int .i64 a1_11, .int .i64 a1_12, .int .i64 a1_13, .int .i64 a1_14, .int .i64 a1_15, .int .i64 a1_16, .slice A1_17 l1_17.length c1_17] 30 ?_; clear M1; intro g3 w3 M2)
          | (refine eB M2 4 #[.int .i64 0, .int .i64 0, .int .i64 0, .int .i64 0, .int .i64 0] 37 ?_; clear M2; intro g4 w4 M3)
          | (refine eC M3 9 1 0 (.int .i64 a1_0) ?_)
          | ((with_reducible refine gate_dst (N := 13) rfl ?_); (refine gate_guard (by rfl) ?_; dsimp only); refine eC M3 13 1 0 (.int .i64 a1_0) ?_)
          | ((with_reducible refine gate_dst (N := 15) rfl ?_); (refine gate_guard (by rfl) ?_; dsimp only); refine eC M3 15 0 0 (.slice A0_0 l0_0.length c0_0) ?_)
          | (refine eR M3 37 4 2 #[.int .i64 0, .int .i64 0, .int .i64 0, .int .i64 0, .int .i64 0] ?_; clear M3; intro w_ M4))
      have h := H.out
      clear H
      simp only [Option.some.injEq, Prod.mk.injEq] at h
      obtain ⟨rfl, rfl, rfl, rfl, rfl, rfl⟩ := h
      exact bodyPost_ret (results_ct rfl _ _ g4 37 _ (0, 0) _ rfl (M4.out.at 2 rfl) Try.underlying37 rfl (by kernel_rfl)) rfl ⟨rfl, M4.out.below⟩
    · have h := H.out
      clear H
      rw [if_neg b1, if_pos b3, if_pos (by omega)] at h
      obtain ⟨⟨t1, t2, t3, t4, t5, t6⟩, hD, h⟩ := Option.bind_eq_some_iff.mp h
      have HD := Lib.hid hD
      clear hD
      have H := Lib.hid h
      clear h
      have b2 : a1_0 < (l0_0.length : Int) := by omega
      obtain ⟨ad, rfl, _⟩ := Kd.at_int HC.out a1_0 b3 b2
      go_wp2_with (first
          | (refine eB M0 2 #[.slice (some ad) l0_0.length c0_0, .slice A0_1 l0_1.length c0_1, .slice A0_2 l0_2.length c0_2] 26 ?_; clear M0; intro g2 w2 M1)
          | (refine eB M1 3 #[.int .i64 a1_0, .int .i64 a1_1, .int .i64 a1_2, .int .i64 a1_3, .int .i64 a1_4, .int .i64 a1_5, .int .i64 a1_6, .int .i64 a1_7, .int .i64 a1_8, .int .i64 a1_9, .int .i64 a1_10, .int .i64 a1_11, .int .i64 a1_12, .int .i64 a1_13, .int .i64 a1_14, .int .i64 a1_15, .int .i64 a1_16, .slice A1_17 l1_17.length c1_17] 30 ?_; clear M1; intro g3 w3 M2)
          | (refine eB M2 4 #[.int .i64 0, .int .i64 0, .int .i64 0, .int .i64 0, .int .i64 0] 37 ?_; clear M2; intro g4 w4 M3)
          | (refine eC M3 9 1 0 (.int .i64 a1_0) ?_)
          | ((with_reducible refine gate_dst (N := 13) rfl ?_); (refine gate_guard (by rfl) ?_; dsimp only); refine eC M3 13 1 0 (.int .i64 a1_0) ?_)
          | ((with_reducible refine gate_dst (N := 15) rfl ?_); (refine gate_guard (by rfl) ?_; dsimp only); refine eC M3 15 0 0 (.slice (some ad) l0_0.length c0_0) ?_)
          | (refine eC M3 22 0 0 (.slice (some ad) l0_0.length c0_0) ?_)
          | (refine eC M3 24 1 0 (.int .i64 a1_0) ?_)
          | ((with_reducible refine gate_dst (N := 26) rfl ?_); obtain ⟨ad_, e_, hx_⟩ := Kd.at_int (Kd.C_below HC.out M3.out.below) a1_0 b3 b2; cases e_; refine eX 26 hx_ ?_; clear hx_))
      refine (word_Decode.calls _ _ _ _ _ _ _ _ HD.out).mono ?_
      rintro e W27 ⟨rfl, hb⟩
      have M4 := Aside0.mk (Mem.call M3.out hb)
      clear M3 hb
      go_wp2_with (first
          | (refine eB M4 6 #[.int .i64 0, .int .i64 0, .int .i64 0, .int .i64 0, .int .i64 0] 37 ?_; clear M4; intro g6 w6 M5)
          | (refine eR M5 37 6 3 #[.int .i64 t1, .int .i64 t2, .int .i64 t3, .int .i64 t4, .int .i64 t5] ?_; clear M5; intro w_ M6)
          | (refine eL M6 30 3 hu37 ?_)
          | (refine eR M6 37 4 2 #[.int .i64 t1, .int .i64 t2, .int .i64 t3, .int .i64 t4, .int .i64 t5] ?_; clear M6; intro w_ M7))
      have h := H.out
      clear H
      simp only [Option.some.injEq, Prod.mk.injEq] at h
      obtain ⟨rfl, rfl, rfl, rfl, rfl, rfl⟩ := h
      exact bodyPost_ret (results_ct rfl _ _ g4 37 _ (0, 0) _ rfl (M7.out.at 2 rfl) Try.underlying37 rfl (by kernel_rfl)) rfl ⟨rfl, M7.out.below⟩

end Go.Proofs.Ythjfmlehkcccfaa.GA
end

section
/-
  (the contract stands in the text that is imported)
-/
end

section
/-
  step.Step: the one way that 'lives' takes.
-/
set_option linter.unusedVariables false
set_option linter.unusedSimpArgs false
namespace Go.Proofs.Ythjfmlehkcccfaa.Hone
open Go.RowKit Go.Proofs.YthjfmlehkcccfaaW.PrintWords Go.Proofs.YthjfmlehkcccfaaW.PrintLast Go.Proofs.YthjfmlehkcccfaaW.PrintMore GA Hctx Hsmall
set_option maxHeartbeats 2000000 in
set_option maxRecDepth 100000 in
theorem p_set (l0 : List Int) (l1 : List S75) (l2 : List S98) (A0 A1 A2 : Option Addr) (c0 c1 c2 : Nat) (pc : Int) (r : Regs) (A : Option Addr) (c : Nat) (l : List Int) (clk slot gen : Int) (w : World)
    (h0 : Kd.C (Kd.int .u32) w A0 l0.length l0) (k0 : l0.length ≤ c0) (h1 : Kd.C k75 w A1 l1.length l1) (k1 : l1.length ≤ c1) (h2 : Kd.C k98 w A2 l2.length l2) (k2 : l2.length ≤ c2) (hl : Kd.C (Kd.int .i64) w A l.length l) (kl : l.length ≤ c) (hlim : l.length < 17592186044416)
    (a b c' : Nat) (m : Int) (ha : a < 16) (hb : b < 16) (hc : c' < 16) (q1 : 0 ≤ pc) (q2 : pc < 9223372036854775807)  (hn : step_next.f l0 l1 l2 pc r.r0 r.r1 r.r2 r.r3 r.r4 r.r5 r.r6 r.r7 r.r8 r.r9 r.r10 r.r11 r.r12 r.r13 r.r14 r.r15 l = some (2, (a : Int), (b : Int), (c' : Int), m, true)) :
    Calls Try.prog 11 #[.agg #[.slice A0 l0.length c0, .slice A1 l1.length c1, .slice A2 l2.length c2], .agg (ctx pc r (.slice A l.length c)), .agg #[.int .u64 clk, .int .i64 slot, .int .i64 gen]] w (Post w (pc + 1) (r.set a m) l want0) := by
  have hu26 := Try.underlying26
  have hu30 := Try.underlying30
  have hu40 := Try.underlying40
  have p1 : (0 : Int) ≤ (a : Int) := by omega
  have p2 : (a : Int) < 16 := by omega
  have p3 : (0 : Int) ≤ (b : Int) := by omega
  have p4 : (b : Int) < 16 := by omega
  have p5 : (0 : Int) ≤ (c' : Int) := by omega
  have p6 : (c' : Int) < 16 := by omega
  have H0 := Aside0.mk h0
  clear h0
  have H1 := Aside0.mk h1
  clear h1
  have H2 := Aside0.mk h2
  clear h2
  have HL := Aside0.mk hl
  clear hl
  have HN := Aside0.mk hn
  clear hn
  have M0 := Aside0.mk (Mem.start 3 w)
  go_enter Try.func11, Try.ntmps11
  go_wp2_with (first
    | (refine eB M0 3 #[.slice A0 l0.length c0, .slice A1 l1.length c1, .slice A2 l2.length c2] 26 ?_; clear M0; intro g3 w3 M1)
    | (refine eB M1 4 (ctx pc r (.slice A l.length c)) 30 ?_; clear M1; intro g4 w4 M2)
    | (refine eB M2 5 #[.int .u64 clk, .int .i64 slot, .int .i64 gen] 35 ?_; clear M2; intro g5 w5 M3)
    | (refine eB M3 6 (ctx 0 zeroR (.slice none 0 0)) 30 ?_; clear M3; intro g6 w6 M4)
    | (refine eB M4 7 want0 40 ?_; clear M4; intro g7 w7 M5)
    | (refine eL M5 18 0 hu26 ?_)
    | (refine eL M5 19 1 hu30 ?_))
  refine (step_next.calls A0 c0 l0 _ c1 l1 A2 c2 l2 pc r.r0 r.r1 r.r2 r.r3 r.r4 r.r5 r.r6 r.r7 r.r8 r.r9 r.r10 r.r11 r.r12 r.r13 r.r14 r.r15 A c l _ _ _ _ _ _ _ (Kd.C_below H0.out M5.out.below) k0 (Kd.C_below H1.out M5.out.below) k1 (Kd.C_below H2.out M5.out.below) k2 (Kd.C_below HL.out M5.out.below) kl HN.out).mono ?_
  rintro e W20 ⟨rfl, hb⟩
  have M6 := Aside0.mk (Mem.call M5.out hb)
  clear M5 hb
  go_wp2_with (first
    | (refine eB M6 8 (instC 0 0 0 0 0) 37 ?_; clear M6; intro g8 w8 M7)
    | (refine eR M7 37 8 5 (instC 2 (a : Int) (b : Int) (c' : Int) m) ?_; clear M7; intro w_ M8)
    | (refine eL M8 29 1 hu30 ?_)
    | (refine eB M8 10 (ctx 0 zeroR (.slice none 0 0)) 30 ?_; clear M8; intro g10 w10 M9)
    | (refine eR M9 30 10 6 (ctx pc r (.slice A l.length c)) ?_; clear M9; intro w_ M10))
  have y1 := (M10.out.cell 5 rfl 1).trans (show _ = some (Value.int .i64 (a : Int)) from rfl)
  have z1 := (M10.out.cell 1 rfl (1 + a)).trans (ctx_reg pc r (.slice A l.length c) a ha)
  have y2 := (M10.out.cell 5 rfl 2).trans (show _ = some (Value.int .i64 (b : Int)) from rfl)
  have z2 := (M10.out.cell 1 rfl (1 + b)).trans (ctx_reg pc r (.slice A l.length c) b hb)
  have y3 := (M10.out.cell 5 rfl 3).trans (show _ = some (Value.int .i64 (c' : Int)) from rfl)
  have z3 := (M10.out.cell 1 rfl (1 + c')).trans (ctx_reg pc r (.slice A l.length c) c' hc)
  go_quiet (fail)
  clear y1 y2 y3 z1 z2 z3
  have M11 := Aside0.mk (Mem.drewN M10.out nq)
  clear M10
  go_wp2_with (first
    | (refine eC M11 46 5 1 (.int .i64 (a : Int)) ?_)
    | (refine eC M11 50 1 17 (.slice A l.length c) ?_))
  refine (Hclone.clone_calls A c l _ (Kd.C_below HL.out M11.out.below) kl hlim).mono ?_
  rintro e W51 ⟨v51, rfl, hR, hb⟩
  obtain ⟨A51, c51, rfl⟩ := Kd.R_slice hR
  have M12 := Aside0.mk (Mem.row M11.out hb hR)
  clear M11 hR hb
  go_wp2_with (first
    | (refine eS M12 28 52 1 17 (.slice A51 l.length c51) (ctx pc r (.slice A51 l.length c51)) ?_; clear M12; intro w_ M13)
    | (refine eC M13 54 1 0 (.int .i64 pc) ?_)
    | (refine eS M13 3 56 1 0 (.int .i64 (pc + 1)) (ctx (pc + 1) r (.slice A51 l.length c51)) ?_; clear M13; intro w_ M14)
    | (refine eC M14 58 5 0 (.int .i64 2) ?_)
    | (refine eC M14 86 5 4 (.int .i64 m) ?_)
    | (refine eS M14 2 87 1 (1 + a) (.int .i64 m) (ctx (pc + 1) (r.set a m) (.slice A51 l.length c51)) (hj := ctx_some _ _ _ _ ha) (hnew := ctx_setreg _ _ _ _ ha _) ?_; clear M14; intro w_ M15)
    | (refine eL M15 232 1 hu30 ?_)
    | (refine eR M15 30 6 3 (ctx (pc + 1) (r.set a m) (.slice A51 l.length c51)) ?_; clear M15; intro w_ M16)
    | (refine eR M16 40 7 4 want0 ?_; clear M16; intro w_ M17))
  refine bodyPost_ret (results_cc rfl _ _ g6 g7 30 40 (ctx (pc + 1) (r.set a m) (.slice A51 l.length c51)) want0 (0, 0) (0, 0) _ _ rfl (M17.out.at 3 rfl) hu30 rfl (by kernel_rfl) rfl (M17.out.at 4 rfl) hu40 rfl (by kernel_rfl)) rfl ⟨_, rfl, M17.out.own, M17.out.below⟩
end Go.Proofs.Ythjfmlehkcccfaa.Hone
end

section
/-
  Comparisons: of what is wanted, and of registers.
-/
set_option linter.unusedVariables false
set_option linter.unusedSimpArgs false
namespace Go.Proofs.Ythjfmlehkcccfaa.Heq
open Go.RowKit Go.Proofs.YthjfmlehkcccfaaW.PrintWords Go.Proofs.YthjfmlehkcccfaaW.PrintLast Go.Proofs.YthjfmlehkcccfaaW.PrintMore Hctx Hsmall
theorem eqA37 (d : Nat) (w : World) (x0 y0 : Int) (x1 y1 : Int) (x2 y2 : Int) (x3 y3 : Int) (x4 y4 : Int) :
    (Op.equalIn (d + 2) 37 (.agg #[.int .i64 x0, .int .i64 x1, .int .i64 x2, .int .i64 x3, .int .i64 x4]) (.agg #[.int .i64 y0, .int .i64 y1, .int .i64 y2, .int .i64 y3, .int .i64 y4])).run Try.prog w = .ok (x0 == y0 && (x1 == y1 && (x2 == y2 && (x3 == y3 && (x4 == y4))))) w := by
  refine eqA_of Try.underlying37 (by kernel_rfl) ?_
  refine eqf_cons (by rfl) (by go_simp; rfl) (by go_simp; rfl) (by go_simp) ?_
  refine eqf_cons (by rfl) (by go_simp; rfl) (by go_simp; rfl) (by go_simp) ?_
  refine eqf_cons (by rfl) (by go_simp; rfl) (by go_simp; rfl) (by go_simp) ?_
  refine eqf_cons (by rfl) (by go_simp; rfl) (by go_simp; rfl) (by go_simp) ?_
  exact eqf_last (by rfl) (by go_simp; rfl) (by go_simp; rfl) (by go_simp)
theorem eqA40 (d : Nat) (w : World) (x0 y0 : Int) (x1 y1 : Int) (x2 y2 : Int) (x3 y3 : Int) (x4 y4 : Int) (x5 y5 : Int) (x6 y6 : Int) (x7 y7 : Int) (x8 y8 : Int) (x9 y9 : Int) (x10 y10 : Int) :
    (Op.equalIn (d + 3) 40 (.agg #[.int .i64 x0, .int .i64 x1, .int .i64 x2, .int .i64 x3, .int .i64 x4, .int .i64 x5, .int .i64 x6, .int .i64 x7, .int .i64 x8, .int .i64 x9, .int .i64 x10]) (.agg #[.int .i64 y0, .int .i64 y1, .int .i64 y2, .int .i64 y3, .int .i64 y4, .int .i64 y5, .int .i64 y6, .int .i64 y7, .int .i64 y8, .int .i64 y9, .int .i64 y10])).run Try.prog w = .ok (x0 == y0 && ((x1 == y1 && (x2 == y2 && (x3 == y3 && (x4 == y4 && (x5 == y5))))) && (x6 == y6 && (x7 == y7 && (x8 == y8 && (x9 == y9 && (x10 == y10))))))) w := by
  refine eqA_of Try.underlying40 (by kernel_rfl) ?_
  refine eqf_cons (by rfl) (by go_simp; rfl) (by go_simp; rfl) (by go_simp) ?_
  refine eqf_cons (by rfl) (by go_simp) (by go_simp) (eqA37 (d + 0) w _ _ _ _ _ _ _ _ _ _) ?_
  refine eqf_cons (by rfl) (by go_simp; rfl) (by go_simp; rfl) (by go_simp) ?_
  refine eqf_cons (by rfl) (by go_simp; rfl) (by go_simp; rfl) (by go_simp) ?_
  refine eqf_cons (by rfl) (by go_simp; rfl) (by go_simp; rfl) (by go_simp) ?_
  refine eqf_cons (by rfl) (by go_simp; rfl) (by go_simp; rfl) (by go_simp) ?_
  exact eqf_last (by rfl) (by go_simp; rfl) (by go_simp; rfl) (by go_simp)
def Regs.eqb (r s : Regs) : Bool := (List.range 16).all fun i => r.get i == s.get i
def arr (r : Regs) : Array Value := #[.int .i64 r.r0, .int .i64 r.r1, .int .i64 r.r2, .int .i64 r.r3, .int .i64 r.r4, .int .i64 r.r5, .int .i64 r.r6, .int .i64 r.r7,
    .int .i64 r.r8, .int .i64 r.r9, .int .i64 r.r10, .int .i64 r.r11, .int .i64 r.r12, .int .i64 r.r13, .int .i64 r.r14, .int .i64 r.r15]
theorem arr_at (r : Regs) (j : Nat) (h : j < 16) : (arr r)[j]? = some (.int .i64 (r.get j)) := match j, h with
  | 0, _ => rfl | 1, _ => rfl | 2, _ => rfl | 3, _ => rfl | 4, _ => rfl | 5, _ => rfl | 6, _ => rfl | 7, _ => rfl
  | 8, _ => rfl | 9, _ => rfl | 10, _ => rfl | 11, _ => rfl | 12, _ => rfl | 13, _ => rfl | 14, _ => rfl | 15, _ => rfl
  | (n + 16), h => absurd h (by omega)
theorem eqA27 (d : Nat) (w : World) (r s : Regs) : (Op.equalIn (d + 2) 27 (.agg (arr r)) (.agg (arr s))).run Try.prog w = .ok (Regs.eqb r s) w := by
  have hn : ∀ w, (sizeOf 2).run Try.prog w = .ok 1 w := fun w => by kernel_rfl
  have ha : ∀ w, (isAgg 2).run Try.prog w = .ok false w := fun w => by kernel_rfl
  have hp : ∀ (q : Regs) (j : Nat) w, j < 16 → (part 2 (arr q) (j * 1)).run Try.prog w = .ok (.int .i64 (q.get j)) w := fun q j w hj => by
    unfold part
    rw [Sem.run_bind, ha w, Nat.mul_one]
    simp [arr_at q j hj]
  have he : ∀ (x y : Int) w, (Op.equalIn (d + 1) 2 (.int .i64 x) (.int .i64 y)).run Try.prog w = .ok (x == y) w := fun x y w => by go_simp
  unfold Regs.eqb
  rw [List.range_eq_range', Op.equalIn]
  simp only [Sem.run_bind, run_underlying Try.underlying27, Result.andThen_ok, hn, Std.Legacy.Range.forIn_eq_forIn_range', Std.Legacy.Range.size, Nat.sub_zero, Nat.add_sub_cancel, Nat.div_one]
  have hl : ∀ i ∈ List.range' 0 16 1, i < 16 := fun i hi => by simpa using (List.mem_range'_1.1 hi).2
  generalize List.range' 0 16 1 = l at hl ⊢
  induction l with
  | nil => simp
  | cons i l ih =>
    have hi : i < 16 := hl i (by simp)
    simp only [List.forIn_cons, Sem.run_bind, hp r i w hi, hp s i w hi, he, Result.andThen_ok, List.all_cons]
    cases hb : (r.get i == s.get i)
    · simp
    · simp only [Bool.not_true, Bool.false_eq_true, if_false, Sem.run_pure, Result.andThen_ok, Bool.true_and]
      exact ih fun j hj => hl j (by simp [hj])
theorem Regs.ext_get {r s : Regs} (h : Regs.eqb r s = true) : r = s := by
  have hg : ∀ i, i < 16 → r.get i = s.get i := fun i hi => by simpa using List.all_eq_true.1 h i (List.mem_range.2 hi)
  cases r; cases s
  simp only [Regs.mk.injEq]
  exact ⟨hg 0 (by omega), hg 1 (by omega), hg 2 (by omega), hg 3 (by omega), hg 4 (by omega), hg 5 (by omega), hg 6 (by omega), hg 7 (by omega), hg 8 (by omega), hg 9 (by omega), hg 10 (by omega), hg 11 (by omega), hg 12 (by omega), hg 13 (by omega), hg 14 (by omega), hg 15 (by omega)⟩
theorem Regs.eqb_self (r : Regs) : Regs.eqb r r = true := List.all_eq_true.2 fun i _ => by simp
theorem eq_want (w : World) (op o a b c m x y z t k : Int) : (binOp .eql 40 (.agg (wantC op o a b c m x y z t k)) (.agg (wantC op o a b c m x y z t k))).run Try.prog w = .ok (.bool true) w := by
  rw [run_eql_struct]
  unfold wantC
  rw [show (10000 : Nat) = 9997 + 3 from rfl, eqA40 9997 w]
  simp
theorem neq_regs (w : World) (r s : Regs) : (binOp .neq 27 (.agg (arr r)) (.agg (arr s))).run Try.prog w = .ok (.bool (!Regs.eqb r s)) w := by
  rw [run_neq_struct, show (10000 : Nat) = 9998 + 2 from rfl, eqA27 9998 w]
  rfl
end Go.Proofs.Ythjfmlehkcccfaa.Heq
end

section
/-
  The reference's table of operations: rows, told by one script.
-/
set_option linter.unusedVariables false
set_option linter.unusedSimpArgs false
namespace Go.Proofs.Ythjfmlehkcccfaa.GA
open Go.RowKit Go.Proofs.YthjfmlehkcccfaaW.PrintWords Go.Proofs.YthjfmlehkcccfaaW.PrintLast Go.Proofs.YthjfmlehkcccfaaW.PrintMore Hctx

def rotaref06_later.f (a0 : Int) : Option (ByteArray × Int × Int × ByteArray × ByteArray × Bool) := if a0 = 30 then (some ((⟨#[114, 101, 99, 118]⟩ : ByteArray), 3, 2, (⟨#[99]⟩ : ByteArray), (⟨#[97, 98]⟩ : ByteArray), true)) else (if a0 = 31 then (some ((⟨#[99, 108, 111, 115, 101]⟩ : ByteArray), 1, 2, (⟨#[97]⟩ : ByteArray), (⟨#[]⟩ : ByteArray), true)) else (if a0 = 32 then (some ((⟨#[108, 101, 110]⟩ : ByteArray), 2, 1, (⟨#[98]⟩ : ByteArray), (⟨#[97]⟩ : ByteArray), true)) else (if a0 = 33 then (some ((⟨#[99, 97, 112]⟩ : ByteArray), 2, 1, (⟨#[98]⟩ : ByteArray), (⟨#[97]⟩ : ByteArray), true)) else (if a0 = 34 then (some ((⟨#[115, 101, 108, 101, 99, 116]⟩ : ByteArray), 5, 4, (⟨#[42]⟩ : ByteArray), (⟨#[42]⟩ : ByteArray), true)) else (if a0 = 35 then (some ((⟨#[108, 111, 99, 107]⟩ : ByteArray), 1, 2, (⟨#[97]⟩ : ByteArray), (⟨#[]⟩ : ByteArray), true)) else (if a0 = 36 then (some ((⟨#[117, 110, 108, 111, 99, 107]⟩ : ByteArray), 1, 2, (⟨#[97]⟩ : ByteArray), (⟨#[]⟩ : ByteArray), true)) else (if a0 = 37 then (some ((⟨#[114, 108, 111, 99, 107]⟩ : ByteArray), 1, 2, (⟨#[97]⟩ : ByteArray), (⟨#[]⟩ : ByteArray), true)) else (if a0 = 38 then (some ((⟨#[114, 117, 110, 108, 111, 99, 107]⟩ : ByteArray), 1, 2, (⟨#[97]⟩ : ByteArray), (⟨#[]⟩ : ByteArray), true)) else (if a0 = 39 then (some ((⟨#[119, 97, 100, 100]⟩ : ByteArray), 2, 2, (⟨#[97, 98]⟩ : ByteArray), (⟨#[]⟩ : ByteArray), true)) else (if a0 = 40 then (some ((⟨#[119, 100, 111, 110, 101]⟩ : ByteArray), 1, 2, (⟨#[97]⟩ : ByteArray), (⟨#[]⟩ : ByteArray), true)) else (if a0 = 41 then (some ((⟨#[119, 119, 97, 105, 116]⟩ : ByteArray), 1, 2, (⟨#[97]⟩ : ByteArray), (⟨#[]⟩ : ByteArray), true)) else (if a0 = 42 then (some ((⟨#[99, 119, 97, 105, 116]⟩ : ByteArray), 2, 3, (⟨#[97, 98]⟩ : ByteArray), (⟨#[]⟩ : ByteArray), true)) else (if a0 = 43 then (some ((⟨#[115, 105, 103, 110, 97, 108]⟩ : ByteArray), 1, 2, (⟨#[97]⟩ : ByteArray), (⟨#[]⟩ : ByteArray), true)) else (if a0 = 44 then (some ((⟨#[98, 114, 111, 97, 100, 99, 97, 115, 116]⟩ : ByteArray), 1, 3, (⟨#[97]⟩ : ByteArray), (⟨#[]⟩ : ByteArray), true)) else (if a0 = 45 then (some ((⟨#[97, 99, 113, 117, 105, 114, 101]⟩ : ByteArray), 1, 2, (⟨#[97]⟩ : ByteArray), (⟨#[]⟩ : ByteArray), true)) else (if a0 = 46 then (some ((⟨#[114, 101, 108, 101, 97, 115, 101]⟩ : ByteArray), 1, 2, (⟨#[97]⟩ : ByteArray), (⟨#[]⟩ : ByteArray), true)) else (if a0 = 47 then (some ((⟨#[108, 111, 97, 100]⟩ : ByteArray), 2, 2, (⟨#[98]⟩ : ByteArray), (⟨#[97]⟩ : ByteArray), true)) else (if a0 = 48 then (some ((⟨#[115, 116, 111, 114, 101]⟩ : ByteArray), 2, 2, (⟨#[97, 98]⟩ : ByteArray), (⟨#[]⟩ : ByteArray), true)) else (if a0 = 49 then (some ((⟨#[115, 119, 97, 112]⟩ : ByteArray), 3, 3, (⟨#[97, 98, 99]⟩ : ByteArray), (⟨#[97]⟩ : ByteArray), true)) else (if a0 = 50 then (some ((⟨#[102, 101, 116, 99, 104]⟩ : ByteArray), 3, 3, (⟨#[98, 99]⟩ : ByteArray), (⟨#[97]⟩ : ByteArray), true)) else (if a0 = 51 then (some ((⟨#[105, 110, 112, 117, 116]⟩ : ByteArray), 2, 2, (⟨#[]⟩ : ByteArray), (⟨#[97, 98]⟩ : ByteArray), true)) else (if a0 = 52 then (some ((⟨#[111, 117, 116, 112, 117, 116]⟩ : ByteArray), 1, 2, (⟨#[97]⟩ : ByteArray), (⟨#[]⟩ : ByteArray), true)) else (if a0 = 53 then (some ((⟨#[112, 117, 116]⟩ : ByteArray), 3, 2, (⟨#[97, 98]⟩ : ByteArray), (⟨#[99]⟩ : ByteArray), true)) else (if a0 = 54 then (some ((⟨#[103, 101, 116]⟩ : ByteArray), 3, 2, (⟨#[99]⟩ : ByteArray), (⟨#[97, 98]⟩ : ByteArray), true)) else (if a0 = 55 then (some ((⟨#[97, 102, 116, 101, 114]⟩ : ByteArray), 3, 3, (⟨#[98, 99]⟩ : ByteArray), (⟨#[97]⟩ : ByteArray), true)) else (if a0 = 56 then (some ((⟨#[101, 118, 101, 114, 121]⟩ : ByteArray), 3, 3, (⟨#[98, 99]⟩ : ByteArray), (⟨#[97]⟩ : ByteArray), true)) else (if a0 = 57 then (some ((⟨#[115, 116, 111, 112]⟩ : ByteArray), 2, 2, (⟨#[98]⟩ : ByteArray), (⟨#[97]⟩ : ByteArray), true)) else (if a0 = 58 then (some ((⟨#[116, 114, 97, 112]⟩ : ByteArray), 4, 1, (⟨#[]⟩ : ByteArray), (⟨#[]⟩ : ByteArray), true)) else (some ((⟨#[]⟩ : ByteArray), 0, 0, (⟨#[]⟩ : ByteArray), (⟨#[]⟩ : ByteArray), false))))))))))))))))))))))))))))))
set_option maxHeartbeats 4000000 in
set_option maxRecDepth 100000 in
theorem rotaref06_later_a (a0 : Int) (r1 : ByteArray) (r2 : Int) (r3 : Int) (r4 : ByteArray) (r5 : ByteArray) (r6 : Bool) (w : World) (h : rotaref06_later.f a0 = some (r1, r2, r3, r4, r5, r6)) (hk : a0 = 30 ∨ a0 = 31 ∨ a0 = 32 ∨ a0 = 33 ∨ a0 = 34 ∨ a0 = 35 ∨ a0 = 36 ∨ a0 = 37 ∨ a0 = 38 ∨ a0 = 39) :
    Calls Try.prog 52 #[.int .i64 a0] w fun e w' => e = .returned (.tuple #[.agg #[.string r1, .int .i64 r2, .int .i64 r3, .string r4, .string r5], .bool r6]) ∧ Below w.heap.size w w' := by
  rcases hk with rfl | rfl | rfl | rfl | rfl | rfl | rfl | rfl | rfl | rfl
  all_goals
    rw [show rotaref06_later.f _ = some (_, _, _, _, _, _) from rfl] at h
    simp only [Option.some.injEq, Prod.mk.injEq] at h
    obtain ⟨rfl, rfl, rfl, rfl, rfl, rfl⟩ := h
    have M := Aside0.mk (Mem.start 3 w)
    go_enter Try.func52, Try.ntmps52
    go_wp2_with (first
      | (refine eB M 2 #[.string (⟨#[]⟩ : ByteArray), .int .i64 0, .int .i64 0, .string (⟨#[]⟩ : ByteArray), .string (⟨#[]⟩ : ByteArray)] 86 ?_; clear M; intro g w1 M1)
      | (refine eR M1 86 2 0 _ ?_; clear M1; intro w2 M2))
    exact bodyPost_ret (results_ct rfl _ _ g 86 _ (0, 0) _ rfl (M2.out.at 0 rfl) Try.underlying86 rfl (by kernel_rfl)) rfl ⟨rfl, M2.out.below⟩

set_option maxHeartbeats 4000000 in
set_option maxRecDepth 100000 in
theorem rotaref06_later_b (a0 : Int) (r1 : ByteArray) (r2 : Int) (r3 : Int) (r4 : ByteArray) (r5 : ByteArray) (r6 : Bool) (w : World) (h : rotaref06_later.f a0 = some (r1, r2, r3, r4, r5, r6)) (hk : a0 = 40 ∨ a0 = 41 ∨ a0 = 42 ∨ a0 = 43 ∨ a0 = 44 ∨ a0 = 45 ∨ a0 = 46 ∨ a0 = 47 ∨ a0 = 48 ∨ a0 = 49) :
    Calls Try.prog 52 #[.int .i64 a0] w fun e w' => e = .returned (.tuple #[.agg #[.string r1, .int .i64 r2, .int .i64 r3, .string r4, .string r5], .bool r6]) ∧ Below w.heap.size w w' := by
  rcases hk with rfl | rfl | rfl | rfl | rfl | rfl | rfl | rfl | rfl | rfl
  all_goals
    rw [show rotaref06_later.f _ = some (_, _, _, _, _, _) from rfl] at h
    simp only [Option.some.injEq, Prod.mk.injEq] at h
    obtain ⟨rfl, rfl, rfl, rfl, rfl, rfl⟩ := h
    have M := Aside0.mk (Mem.start 3 w)
    go_enter Try.func52, Try.ntmps52
    go_wp2_with (first
      | (refine eB M 2 #[.string (⟨#[]⟩ : ByteArray), .int .i64 0, .int .i64 0, .string (⟨#[]⟩ : ByteArray), .string (⟨#[]⟩ : ByteArray)] 86 ?_; clear M; intro g w1 M1)
      | (refine eR M1 86 2 0 _ ?_; clear M1; intro w2 M2))
    exact bodyPost_ret (results_ct rfl _ _ g 86 _ (0, 0) _ rfl (M2.out.at 0 rfl) Try.underlying86 rfl (by kernel_rfl)) rfl ⟨rfl, M2.out.below⟩

set_option maxHeartbeats 4000000 in
set_option maxRecDepth 100000 in
theorem rotaref06_later_z (a0 : Int) (r1 : ByteArray) (r2 : Int) (r3 : Int) (r4 : ByteArray) (r5 : ByteArray) (r6 : Bool) (w : World) (h : rotaref06_later.f a0 = some (r1, r2, r3, r4, r5, r6)) (hk : a0 = 50 ∨ a0 = 51 ∨ a0 = 52 ∨ a0 = 53 ∨ a0 = 54 ∨ a0 = 55 ∨ a0 = 56 ∨ a0 = 57 ∨ a0 = 58) :
    Calls Try.prog 52 #[.int .i64 a0] w fun e w' => e = .returned (.tuple #[.agg #[.string r1, .int .i64 r2, .int .i64 r3, .string r4, .string r5], .bool r6]) ∧ Below w.heap.size w w' := by
  rcases hk with rfl | rfl | rfl | rfl | rfl | rfl | rfl | rfl | rfl
  all_goals
    rw [show rotaref06_later.f _ = some (_, _, _, _, _, _) from rfl] at h
    simp only [Option.some.injEq, Prod.mk.injEq] at h
    obtain ⟨rfl, rfl, rfl, rfl, rfl, rfl⟩ := h
    have M := Aside0.mk (Mem.start 3 w)
    go_enter Try.func52, Try.ntmps52
    go_wp2_with (first
      | (refine eB M 2 #[.string (⟨#[]⟩ : ByteArray), .int .i64 0, .int .i64 0, .string (⟨#[]⟩ : ByteArray), .string (⟨#[]⟩ : ByteArray)] 86 ?_; clear M; intro g w1 M1)
      | (refine eR M1 86 2 0 _ ?_; clear M1; intro w2 M2))
    exact bodyPost_ret (results_ct rfl _ _ g 86 _ (0, 0) _ rfl (M2.out.at 0 rfl) Try.underlying86 rfl (by kernel_rfl)) rfl ⟨rfl, M2.out.below⟩

set_option maxHeartbeats 4000000 in
set_option maxRecDepth 100000 in
theorem rotaref06_later_else (a0 : Int) (r1 : ByteArray) (r2 : Int) (r3 : Int) (r4 : ByteArray) (r5 : ByteArray) (r6 : Bool) (w : World) (h : rotaref06_later.f a0 = some (r1, r2, r3, r4, r5, r6)) (hk : a0 < 30 ∨ 58 < a0) :
    Calls Try.prog 52 #[.int .i64 a0] w fun e w' => e = .returned (.tuple #[.agg #[.string r1, .int .i64 r2, .int .i64 r3, .string r4, .string r5], .bool r6]) ∧ Below w.heap.size w w' := by
  unfold rotaref06_later.f at h
  rw [if_neg (show ¬ a0 = 30 by omega)] at h
  rw [if_neg (show ¬ a0 = 31 by omega)] at h
  rw [if_neg (show ¬ a0 = 32 by omega)] at h
  rw [if_neg (show ¬ a0 = 33 by omega)] at h
  rw [if_neg (show ¬ a0 = 34 by omega)] at h
  rw [if_neg (show ¬ a0 = 35 by omega)] at h
  rw [if_neg (show ¬ a0 = 36 by omega)] at h
  rw [if_neg (show ¬ a0 = 37 by omega)] at h
  rw [if_neg (show ¬ a0 = 38 by omega)] at h
  rw [if_neg (show ¬ a0 = 39 by omega)] at h
  rw [if_neg (show ¬ a0 = 40 by omega)] at h
  rw [if_neg (show ¬ a0 = 41 by omega)] at h
  rw [if_neg (show ¬ a0 = 42 by omega)] at h
  rw [if_neg (show ¬ a0 = 43 by omega)] at h
  rw [if_neg (show ¬ a0 = 44 by omega)] at h
  rw [if_neg (show ¬ a0 = 45 by omega)] at h
  rw [if_neg (show ¬ a0 = 46 by omega)] at h
  rw [if_neg (show ¬ a0 = 47 by omega)] at h
  rw [if_neg (show ¬ a0 = 48 by omega)] at h
  rw [if_neg (show ¬ a0 = 49 by omega)] at h
  rw [if_neg (show ¬ a0 = 50 by omega)] at h
  rw [if_neg (show ¬ a0 = 51 by omega)] at h
  rw [if_neg (show ¬ a0 = 52 by omega)] at h
  rw [if_neg (show ¬ a0 = 53 by omega)] at h
  rw [if_neg (show ¬ a0 = 54 by omega)] at h
  rw [if_neg (show ¬ a0 = 55 by omega)] at h
  rw [if_neg (show ¬ a0 = 56 by omega)] at h
  rw [if_neg (show ¬ a0 = 57 by omega)] at h
  rw [if_neg (show ¬ a0 = 58 by omega)] at h
  have c30 := beq_eq_false_iff_ne.mpr (show a0 ≠ 30 by omega)
  have c31 := beq_eq_false_iff_ne.mpr (show a0 ≠ 31 by omega)
  have c32 := beq_eq_false_iff_ne.mpr (show a0 ≠ 32 by omega)
  have c33 := beq_eq_false_iff_ne.mpr (show a0 ≠ 33 by omega)
  have c34 := beq_eq_false_iff_ne.mpr (show a0 ≠ 34 by omega)
  have c35 := beq_eq_false_iff_ne.mpr (show a0 ≠ 35 by omega)
  have c36 := beq_eq_false_iff_ne.mpr (show a0 ≠ 36 by omega)
  have c37 := beq_eq_false_iff_ne.mpr (show a0 ≠ 37 by omega)
  have c38 := beq_eq_false_iff_ne.mpr (show a0 ≠ 38 by omega)
  have c39 := beq_eq_false_iff_ne.mpr (show a0 ≠ 39 by omega)
  have c40 := beq_eq_false_iff_ne.mpr (show a0 ≠ 40 by omega)
  have c41 := beq_eq_false_iff_ne.mpr (show a0 ≠ 41 by omega)
  have c42 := beq_eq_false_iff_ne.mpr (show a0 ≠ 42 by omega)
  have c43 := beq_eq_false_iff_ne.mpr (show a0 ≠ 43 by omega)
  have c44 := beq_eq_false_iff_ne.mpr (show a0 ≠ 44 by omega)
  have c45 := beq_eq_false_iff_ne.mpr (show a0 ≠ 45 by omega)
  have c46 := beq_eq_false_iff_ne.mpr (show a0 ≠ 46 by omega)
  have c47 := beq_eq_false_iff_ne.mpr (show a0 ≠ 47 by omega)
  have c48 := beq_eq_false_iff_ne.mpr (show a0 ≠ 48 by omega)
  have c49 := beq_eq_false_iff_ne.mpr (show a0 ≠ 49 by omega)
  have c50 := beq_eq_false_iff_ne.mpr (show a0 ≠ 50 by omega)
  have c51 := beq_eq_false_iff_ne.mpr (show a0 ≠ 51 by omega)
  have c52 := beq_eq_false_iff_ne.mpr (show a0 ≠ 52 by omega)
  have c53 := beq_eq_false_iff_ne.mpr (show a0 ≠ 53 by omega)
  have c54 := beq_eq_false_iff_ne.mpr (show a0 ≠ 54 by omega)
  have c55 := beq_eq_false_iff_ne.mpr (show a0 ≠ 55 by omega)
  have c56 := beq_eq_false_iff_ne.mpr (show a0 ≠ 56 by omega)
  have c57 := beq_eq_false_iff_ne.mpr (show a0 ≠ 57 by omega)
  have c58 := beq_eq_false_iff_ne.mpr (show a0 ≠ 58 by omega)
  clear hk
  simp only [Option.some.injEq, Prod.mk.injEq] at h
  obtain ⟨rfl, rfl, rfl, rfl, rfl, rfl⟩ := h
  have M := Aside0.mk (Mem.start 3 w)
  go_enter Try.func52, Try.ntmps52
  go_wp2_with (first
    | (refine eB M 2 #[.string (⟨#[]⟩ : ByteArray), .int .i64 0, .int .i64 0, .string (⟨#[]⟩ : ByteArray), .string (⟨#[]⟩ : ByteArray)] 86 ?_; clear M; intro g w1 M1)
    | (refine eR M1 86 2 0 _ ?_; clear M1; intro w2 M2))
  exact bodyPost_ret (results_ct rfl _ _ g 86 _ (0, 0) _ rfl (M2.out.at 0 rfl) Try.underlying86 rfl (by kernel_rfl)) rfl ⟨rfl, M2.out.below⟩

theorem rotaref06_later.calls (a0 : Int) (r1 : ByteArray) (r2 : Int) (r3 : Int) (r4 : ByteArray) (r5 : ByteArray) (r6 : Bool) (w : World) (h : rotaref06_later.f a0 = some (r1, r2, r3, r4, r5, r6)) :
    Calls Try.prog 52 #[.int .i64 a0] w fun e w' => e = .returned (.tuple #[.agg #[.string r1, .int .i64 r2, .int .i64 r3, .string r4, .string r5], .bool r6]) ∧ Below w.heap.size w w' := by
  by_cases hk : a0 < 30 ∨ 58 < a0
  · exact rotaref06_later_else a0 r1 r2 r3 r4 r5 r6 w h hk
  by_cases hka : a0 < 40
  · exact rotaref06_later_a a0 r1 r2 r3 r4 r5 r6 w h (by omega)
  by_cases hkb : a0 < 50
  · exact rotaref06_later_b a0 r1 r2 r3 r4 r5 r6 w h (by omega)
  exact rotaref06_later_z a0 r1 r2 r3 r4 r5 r6 w h (by omega)

end Go.Proofs.Ythjfmlehkcccfaa.GA
end

section
/-
  The reference's table of operations: rows, told by one script.
-/
set_option linter.unusedVariables false
set_option linter.unusedSimpArgs false
namespace Go.Proofs.Ythjfmlehkcccfaa.GA
open Go.RowKit Go.Proofs.YthjfmlehkcccfaaW.PrintWords Go.Proofs.YthjfmlehkcccfaaW.PrintLast Go.Proofs.YthjfmlehkcccfaaW.PrintMore Hctx

def rotaref06_table.f (a0 : Int) : Option (ByteArray × Int × Int × ByteArray × ByteArray × Bool) := if a0 = 1 then (some ((⟨#[110, 111, 112]⟩ : ByteArray), 0, 1, (⟨#[]⟩ : ByteArray), (⟨#[]⟩ : ByteArray), true)) else (if a0 = 2 then (some ((⟨#[115, 101, 116]⟩ : ByteArray), 6, 1, (⟨#[]⟩ : ByteArray), (⟨#[97]⟩ : ByteArray), true)) else (if a0 = 3 then (some ((⟨#[104, 105, 103, 104]⟩ : ByteArray), 5, 1, (⟨#[97]⟩ : ByteArray), (⟨#[97]⟩ : ByteArray), true)) else (if a0 = 4 then (some ((⟨#[109, 111, 118, 101]⟩ : ByteArray), 2, 1, (⟨#[98]⟩ : ByteArray), (⟨#[97]⟩ : ByteArray), true)) else (if a0 = 5 then (some ((⟨#[97, 100, 100]⟩ : ByteArray), 3, 1, (⟨#[98, 99]⟩ : ByteArray), (⟨#[97]⟩ : ByteArray), true)) else (if a0 = 6 then (some ((⟨#[115, 117, 98]⟩ : ByteArray), 3, 1, (⟨#[98, 99]⟩ : ByteArray), (⟨#[97]⟩ : ByteArray), true)) else (if a0 = 7 then (some ((⟨#[109, 117, 108]⟩ : ByteArray), 3, 3, (⟨#[98, 99]⟩ : ByteArray), (⟨#[97]⟩ : ByteArray), true)) else (if a0 = 8 then (some ((⟨#[100, 105, 118]⟩ : ByteArray), 3, 8, (⟨#[98, 99]⟩ : ByteArray), (⟨#[97]⟩ : ByteArray), true)) else (if a0 = 9 then (some ((⟨#[114, 101, 109]⟩ : ByteArray), 3, 8, (⟨#[98, 99]⟩ : ByteArray), (⟨#[97]⟩ : ByteArray), true)) else (if a0 = 10 then (some ((⟨#[97, 110, 100]⟩ : ByteArray), 3, 1, (⟨#[98, 99]⟩ : ByteArray), (⟨#[97]⟩ : ByteArray), true)) else (if a0 = 11 then (some ((⟨#[111, 114]⟩ : ByteArray), 3, 1, (⟨#[98, 99]⟩ : ByteArray), (⟨#[97]⟩ : ByteArray), true)) else (if a0 = 12 then (some ((⟨#[120, 111, 114]⟩ : ByteArray), 3, 1, (⟨#[98, 99]⟩ : ByteArray), (⟨#[97]⟩ : ByteArray), true)) else (if a0 = 13 then (some ((⟨#[115, 104, 108]⟩ : ByteArray), 3, 1, (⟨#[98, 99]⟩ : ByteArray), (⟨#[97]⟩ : ByteArray), true)) else (if a0 = 14 then (some ((⟨#[115, 104, 114]⟩ : ByteArray), 3, 1, (⟨#[98, 99]⟩ : ByteArray), (⟨#[97]⟩ : ByteArray), true)) else (if a0 = 15 then (some ((⟨#[108, 101, 115, 115]⟩ : ByteArray), 3, 1, (⟨#[98, 99]⟩ : ByteArray), (⟨#[97]⟩ : ByteArray), true)) else (if a0 = 16 then (some ((⟨#[101, 113, 117, 97, 108]⟩ : ByteArray), 3, 1, (⟨#[98, 99]⟩ : ByteArray), (⟨#[97]⟩ : ByteArray), true)) else (if a0 = 17 then (some ((⟨#[106, 117, 109, 112]⟩ : ByteArray), 4, 1, (⟨#[]⟩ : ByteArray), (⟨#[]⟩ : ByteArray), true)) else (if a0 = 18 then (some ((⟨#[122, 101, 114, 111]⟩ : ByteArray), 5, 1, (⟨#[97]⟩ : ByteArray), (⟨#[]⟩ : ByteArray), true)) else (if a0 = 19 then (some ((⟨#[115, 111, 109, 101]⟩ : ByteArray), 5, 1, (⟨#[97]⟩ : ByteArray), (⟨#[]⟩ : ByteArray), true)) else (if a0 = 20 then (some ((⟨#[99, 97, 108, 108]⟩ : ByteArray), 4, 2, (⟨#[]⟩ : ByteArray), (⟨#[]⟩ : ByteArray), true)) else (if a0 = 21 then (some ((⟨#[114, 101, 116]⟩ : ByteArray), 0, 2, (⟨#[]⟩ : ByteArray), (⟨#[]⟩ : ByteArray), true)) else (if a0 = 22 then (some ((⟨#[115, 112, 97, 119, 110]⟩ : ByteArray), 5, 4, (⟨#[42]⟩ : ByteArray), (⟨#[97]⟩ : ByteArray), true)) else (if a0 = 23 then (some ((⟨#[121, 105, 101, 108, 100]⟩ : ByteArray), 0, 1, (⟨#[]⟩ : ByteArray), (⟨#[]⟩ : ByteArray), true)) else (if a0 = 24 then (some ((⟨#[101, 120, 105, 116]⟩ : ByteArray), 0, 1, (⟨#[]⟩ : ByteArray), (⟨#[]⟩ : ByteArray), true)) else (if a0 = 25 then (some ((⟨#[115, 101, 108, 102]⟩ : ByteArray), 1, 1, (⟨#[]⟩ : ByteArray), (⟨#[97]⟩ : ByteArray), true)) else (if a0 = 26 then (some ((⟨#[110, 111, 119]⟩ : ByteArray), 1, 1, (⟨#[]⟩ : ByteArray), (⟨#[97]⟩ : ByteArray), true)) else (if a0 = 27 then (some ((⟨#[115, 108, 101, 101, 112]⟩ : ByteArray), 1, 1, (⟨#[97]⟩ : ByteArray), (⟨#[]⟩ : ByteArray), true)) else (if a0 = 28 then (some ((⟨#[109, 97, 107, 101]⟩ : ByteArray), 2, 4, (⟨#[98]⟩ : ByteArray), (⟨#[97]⟩ : ByteArray), true)) else (if a0 = 29 then (some ((⟨#[115, 101, 110, 100]⟩ : ByteArray), 2, 2, (⟨#[97, 98]⟩ : ByteArray), (⟨#[]⟩ : ByteArray), true)) else ((rotaref06_later.f a0).bind fun bt190 => (some (bt190.1, bt190.2.1, bt190.2.2.1, bt190.2.2.2.1, bt190.2.2.2.2.1, bt190.2.2.2.2.2)))))))))))))))))))))))))))))))
set_option maxHeartbeats 4000000 in
set_option maxRecDepth 100000 in
theorem rotaref06_table_a (a0 : Int) (r1 : ByteArray) (r2 : Int) (r3 : Int) (r4 : ByteArray) (r5 : ByteArray) (r6 : Bool) (w : World) (h : rotaref06_table.f a0 = some (r1, r2, r3, r4, r5, r6)) (hk : a0 = 1 ∨ a0 = 2 ∨ a0 = 3 ∨ a0 = 4 ∨ a0 = 5 ∨ a0 = 6 ∨ a0 = 7 ∨ a0 = 8 ∨ a0 = 9 ∨ a0 = 10) :
    Calls Try.prog 40 #[.int .i64 a0] w fun e w' => e = .returned (.tuple #[.agg #[.string r1, .int .i64 r2, .int .i64 r3, .string r4, .string r5], .bool r6]) ∧ Below w.heap.size w w' := by
  rcases hk with rfl | rfl | rfl | rfl | rfl | rfl | rfl | rfl | rfl | rfl
  all_goals
    rw [show rotaref06_table.f _ = some (_, _, _, _, _, _) from rfl] at h
    simp only [Option.some.injEq, Prod.mk.injEq] at h
    obtain ⟨rfl, rfl, rfl, rfl, rfl, rfl⟩ := h
    have M := Aside0.mk (Mem.start 3 w)
    go_enter Try.func40, Try.ntmps40
    go_wp2_with (first
      | (refine eB M 2 #[.string (⟨#[]⟩ : ByteArray), .int .i64 0, .int .i64 0, .string (⟨#[]⟩ : ByteArray), .string (⟨#[]⟩ : ByteArray)] 86 ?_; clear M; intro g w1 M1)
      | (refine eR M1 86 2 0 _ ?_; clear M1; intro w2 M2))
    exact bodyPost_ret (results_ct rfl _ _ g 86 _ (0, 0) _ rfl (M2.out.at 0 rfl) Try.underlying86 rfl (by kernel_rfl)) rfl ⟨rfl, M2.out.below⟩

set_option maxHeartbeats 4000000 in
set_option maxRecDepth 100000 in
theorem rotaref06_table_b (a0 : Int) (r1 : ByteArray) (r2 : Int) (r3 : Int) (r4 : ByteArray) (r5 : ByteArray) (r6 : Bool) (w : World) (h : rotaref06_table.f a0 = some (r1, r2, r3, r4, r5, r6)) (hk : a0 = 11 ∨ a0 = 12 ∨ a0 = 13 ∨ a0 = 14 ∨ a0 = 15 ∨ a0 = 16 ∨ a0 = 17 ∨ a0 = 18 ∨ a0 = 19 ∨ a0 = 20) :
    Calls Try.prog 40 #[.int .i64 a0] w fun e w' => e = .returned (.tuple #[.agg #[.string r1, .int .i64 r2, .int .i64 r3, .string r4, .string r5], .bool r6]) ∧ Below w.heap.size w w' := by
  rcases hk with rfl | rfl | rfl | rfl | rfl | rfl | rfl | rfl | rfl | rfl
  all_goals
    rw [show rotaref06_table.f _ = some (_, _, _, _, _, _) from rfl] at h
    simp only [Option.some.injEq, Prod.mk.injEq] at h
    obtain ⟨rfl, rfl, rfl, rfl, rfl, rfl⟩ := h
    have M := Aside0.mk (Mem.start 3 w)
    go_enter Try.func40, Try.ntmps40
    go_wp2_with (first
      | (refine eB M 2 #[.string (⟨#[]⟩ : ByteArray), .int .i64 0, .int .i64 0, .string (⟨#[]⟩ : ByteArray), .string (⟨#[]⟩ : ByteArray)] 86 ?_; clear M; intro g w1 M1)
      | (refine eR M1 86 2 0 _ ?_; clear M1; intro w2 M2))
    exact bodyPost_ret (results_ct rfl _ _ g 86 _ (0, 0) _ rfl (M2.out.at 0 rfl) Try.underlying86 rfl (by kernel_rfl)) rfl ⟨rfl, M2.out.below⟩

set_option maxHeartbeats 4000000 in
set_option maxRecDepth 100000 in
theorem rotaref06_table_z (a0 : Int) (r1 : ByteArray) (r2 : Int) (r3 : Int) (r4 : ByteArray) (r5 : ByteArray) (r6 : Bool) (w : World) (h : rotaref06_table.f a0 = some (r1, r2, r3, r4, r5, r6)) (hk : a0 = 21 ∨ a0 = 22 ∨ a0 = 23 ∨ a0 = 24 ∨ a0 = 25 ∨ a0 = 26 ∨ a0 = 27 ∨ a0 = 28 ∨ a0 = 29) :
    Calls Try.prog 40 #[.int .i64 a0] w fun e w' => e = .returned (.tuple #[.agg #[.string r1, .int .i64 r2, .int .i64 r3, .string r4, .string r5], .bool r6]) ∧ Below w.heap.size w w' := by
  rcases hk with rfl | rfl | rfl | rfl | rfl | rfl | rfl | rfl | rfl
  all_goals
    rw [show rotaref06_table.f _ = some (_, _, _, _, _, _) from rfl] at h
    simp only [Option.some.injEq, Prod.mk.injEq] at h
    obtain ⟨rfl, rfl, rfl, rfl, rfl, rfl⟩ := h
    have M := Aside0.mk (Mem.start 3 w)
    go_enter Try.func40, Try.ntmps40
    go_wp2_with (first
      | (refine eB M 2 #[.string (⟨#[]⟩ : ByteArray), .int .i64 0, .int .i64 0, .string (⟨#[]⟩ : ByteArray), .string (⟨#[]⟩ : ByteArray)] 86 ?_; clear M; intro g w1 M1)
      | (refine eR M1 86 2 0 _ ?_; clear M1; intro w2 M2))
    exact bodyPost_ret (results_ct rfl _ _ g 86 _ (0, 0) _ rfl (M2.out.at 0 rfl) Try.underlying86 rfl (by kernel_rfl)) rfl ⟨rfl, M2.out.below⟩

set_option maxHeartbeats 4000000 in
set_option maxRecDepth 100000 in
theorem rotaref06_table_else (a0 : Int) (r1 : ByteArray) (r2 : Int) (r3 : Int) (r4 : ByteArray) (r5 : ByteArray) (r6 : Bool) (w : World) (h : rotaref06_table.f a0 = some (r1, r2, r3, r4, r5, r6)) (hk : a0 < 1 ∨ 29 < a0) :
    Calls Try.prog 40 #[.int .i64 a0] w fun e w' => e = .returned (.tuple #[.agg #[.string r1, .int .i64 r2, .int .i64 r3, .string r4, .string r5], .bool r6]) ∧ Below w.heap.size w w' := by
  unfold rotaref06_table.f at h
  rw [if_neg (show ¬ a0 = 1 by omega)] at h
  rw [if_neg (show ¬ a0 = 2 by omega)] at h
  rw [if_neg (show ¬ a0 = 3 by omega)] at h
  rw [if_neg (show ¬ a0 = 4 by omega)] at h
  rw [if_neg (show ¬ a0 = 5 by omega)] at h
  rw [if_neg (show ¬ a0 = 6 by omega)] at h
  rw [if_neg (show ¬ a0 = 7 by omega)] at h
  rw [if_neg (show ¬ a0 = 8 by omega)] at h
  rw [if_neg (show ¬ a0 = 9 by omega)] at h
  rw [if_neg (show ¬ a0 = 10 by omega)] at h
  rw [if_neg (show ¬ a0 = 11 by omega)] at h
  rw [if_neg (show ¬ a0 = 12 by omega)] at h
  rw [if_neg (show ¬ a0 = 13 by omega)] at h
  rw [if_neg (show ¬ a0 = 14 by omega)] at h
  rw [if_neg (show ¬ a0 = 15 by omega)] at h
  rw [if_neg (show ¬ a0 = 16 by omega)] at h
  rw [if_neg (show ¬ a0 = 17 by omega)] at h
  rw [if_neg (show ¬ a0 = 18 by omega)] at h
  rw [if_neg (show ¬ a0 = 19 by omega)] at h
  rw [if_neg (show ¬ a0 = 20 by omega)] at h
  rw [if_neg (show ¬ a0 = 21 by omega)] at h
  rw [if_neg (show ¬ a0 = 22 by omega)] at h
  rw [if_neg (show ¬ a0 = 23 by omega)] at h
  rw [if_neg (show ¬ a0 = 24 by omega)] at h
  rw [if_neg (show ¬ a0 = 25 by omega)] at h
  rw [if_neg (show ¬ a0 = 26 by omega)] at h
  rw [if_neg (show ¬ a0 = 27 by omega)] at h
  rw [if_neg (show ¬ a0 = 28 by omega)] at h
  rw [if_neg (show ¬ a0 = 29 by omega)] at h
  have c1 := beq_eq_false_iff_ne.mpr (show a0 ≠ 1 by omega)
  have c2 := beq_eq_false_iff_ne.mpr (show a0 ≠ 2 by omega)
  have c3 := beq_eq_false_iff_ne.mpr (show a0 ≠ 3 by omega)
  have c4 := beq_eq_false_iff_ne.mpr (show a0 ≠ 4 by omega)
  have c5 := beq_eq_false_iff_ne.mpr (show a0 ≠ 5 by omega)
  have c6 := beq_eq_false_iff_ne.mpr (show a0 ≠ 6 by omega)
  have c7 := beq_eq_false_iff_ne.mpr (show a0 ≠ 7 by omega)
  have c8 := beq_eq_false_iff_ne.mpr (show a0 ≠ 8 by omega)
  have c9 := beq_eq_false_iff_ne.mpr (show a0 ≠ 9 by omega)
  have c10 := beq_eq_false_iff_ne.mpr (show a0 ≠ 10 by omega)
  have c11 := beq_eq_false_iff_ne.mpr (show a0 ≠ 11 by omega)
  have c12 := beq_eq_false_iff_ne.mpr (show a0 ≠ 12 by omega)
  have c13 := beq_eq_false_iff_ne.mpr (show a0 ≠ 13 by omega)
  have c14 := beq_eq_false_iff_ne.mpr (show a0 ≠ 14 by omega)
  have c15 := beq_eq_false_iff_ne.mpr (show a0 ≠ 15 by omega)
  have c16 := beq_eq_false_iff_ne.mpr (show a0 ≠ 16 by omega)
  have c17 := beq_eq_false_iff_ne.mpr (show a0 ≠ 17 by omega)
  have c18 := beq_eq_false_iff_ne.mpr (show a0 ≠ 18 by omega)
  have c19 := beq_eq_false_iff_ne.mpr (show a0 ≠ 19 by omega)
  have c20 := beq_eq_false_iff_ne.mpr (show a0 ≠ 20 by omega)
  have c21 := beq_eq_false_iff_ne.mpr (show a0 ≠ 21 by omega)
  have c22 := beq_eq_false_iff_ne.mpr (show a0 ≠ 22 by omega)
  have c23 := beq_eq_false_iff_ne.mpr (show a0 ≠ 23 by omega)
  have c24 := beq_eq_false_iff_ne.mpr (show a0 ≠ 24 by omega)
  have c25 := beq_eq_false_iff_ne.mpr (show a0 ≠ 25 by omega)
  have c26 := beq_eq_false_iff_ne.mpr (show a0 ≠ 26 by omega)
  have c27 := beq_eq_false_iff_ne.mpr (show a0 ≠ 27 by omega)
  have c28 := beq_eq_false_iff_ne.mpr (show a0 ≠ 28 by omega)
  have c29 := beq_eq_false_iff_ne.mpr (show a0 ≠ 29 by omega)
  clear hk
  replace h := Option.bind_eq_some_iff.mp h
  obtain ⟨⟨t1, t2, t3, t4, t5, t6⟩, hA, h⟩ := h
  simp only [Option.some.injEq, Prod.mk.injEq] at h
  obtain ⟨rfl, rfl, rfl, rfl, rfl, rfl⟩ := h
  have HA := Aside0.mk hA
  clear hA
  have M := Aside0.mk (Mem.start 3 w)
  go_enter Try.func40, Try.ntmps40
  go_wp2_with (refine eB M 2 #[.string (⟨#[]⟩ : ByteArray), .int .i64 0, .int .i64 0, .string (⟨#[]⟩ : ByteArray), .string (⟨#[]⟩ : ByteArray)] 86 ?_; clear M; intro g w1 M1)
  refine (rotaref06_later.calls a0 _ _ _ _ _ _ _ HA.out).mono ?_
  rintro e w2 ⟨rfl, hb⟩
  have M2 := Aside0.mk (Mem.call M1.out hb)
  clear M1 hb
  go_wp2_with (refine eR M2 86 2 0 _ ?_; clear M2; intro w3 M3)
  exact bodyPost_ret (results_ct rfl _ _ g 86 _ (0, 0) _ rfl (M3.out.at 0 rfl) Try.underlying86 rfl (by kernel_rfl)) rfl ⟨rfl, M3.out.below⟩

theorem rotaref06_table.calls (a0 : Int) (r1 : ByteArray) (r2 : Int) (r3 : Int) (r4 : ByteArray) (r5 : ByteArray) (r6 : Bool) (w : World) (h : rotaref06_table.f a0 = some (r1, r2, r3, r4, r5, r6)) :
    Calls Try.prog 40 #[.int .i64 a0] w fun e w' => e = .returned (.tuple #[.agg #[.string r1, .int .i64 r2, .int .i64 r3, .string r4, .string r5], .bool r6]) ∧ Below w.heap.size w w' := by
  by_cases hk : a0 < 1 ∨ 29 < a0
  · exact rotaref06_table_else a0 r1 r2 r3 r4 r5 r6 w h hk
  by_cases hka : a0 < 11
  · exact rotaref06_table_a a0 r1 r2 r3 r4 r5 r6 w h (by omega)
  by_cases hkb : a0 < 21
  · exact rotaref06_table_b a0 r1 r2 r3 r4 r5 r6 w h (by omega)
  exact rotaref06_table_z a0 r1 r2 r3 r4 r5 r6 w h (by omega)

end Go.Proofs.Ythjfmlehkcccfaa.GA
end

section
/-
  (the contract stands in the text that is imported)
-/
end

section
-- laid by a program of this session (wip/gp.sh)
namespace Go.Proofs.Ythjfmlehkcccfaa.GA
open Go.RowKit Go.Proofs.YthjfmlehkcccfaaW.PrintWords Go.Proofs.YthjfmlehkcccfaaW.PrintLast Go.Proofs.YthjfmlehkcccfaaW.PrintMore
attribute [local go_sem] max2_int min2_int max_two min_two max_three min_three max_four min_four   -- for this text's walks alone
set_option linter.unusedVariables false
set_option linter.unusedSimpArgs false

/-! ### rotaref06_Has: function 41 -/
def rotaref06_Has.f (a0 : Int) : Option (Bool × Bool × Bool × Int × Int) := if a0 = 1 then (some (true, false, false, 0, 0)) else (if a0 = 2 then (some (true, true, false, 0, 0)) else (if a0 = 3 then (some (true, true, true, 0, 0)) else (if a0 = 4 then (some (false, false, false, 0, 65535)) else (if a0 = 5 then (some (true, false, false, 0, 65535)) else (if a0 = 6 then (some (true, false, false, (-32768), 32767)) else (some (false, false, false, 0, 0)))))))
set_option maxHeartbeats 8000000 in
set_option maxRecDepth 100000 in
theorem rotaref06_Has.calls (a0 : Int) (r1 : Bool) (r2 : Bool) (r3 : Bool) (r4 : Int) (r5 : Int) (w : World) (h : rotaref06_Has.f a0 = some (r1, r2, r3, r4, r5)) :
    Calls Try.prog 41 #[.int .i64 a0] w fun e w' => e = .returned (.tuple #[.bool r1, .bool r2, .bool r3, .int .i64 r4, .int .i64 r5]) ∧ Drawn0 w w' := by
  have H : (if a0 = 1 then (some (true, false, false, 0, 0)) else (if a0 = 2 then (some (true, true, false, 0, 0)) else (if a0 = 3 then (some (true, true, true, 0, 0)) else (if a0 = 4 then (some (false, false, false, 0, 65535)) else (if a0 = 5 then (some (true, false, false, 0, 65535)) else (if a0 = 6 then (some (true, false, false, (-32768), 32767)) else (some (false, false, false, 0, 0)))))))) = some (r1, r2, r3, r4, r5) := h
  clear h
  by_cases c2 : a0 = 1
  · rw [if_pos c2] at H
    have c2b0 : (a0 == 1) = true := beq_iff_eq.mpr c2
    have c2b1 : (a0 != 1) = false := bne_eq_false_iff_eq.mpr c2
    clear c2
    simp only [Option.some.injEq, Prod.mk.injEq] at H
    obtain ⟨rfl, rfl, rfl, rfl, rfl⟩ := H
    go_enter Try.func41, Try.ntmps41
    go_wp2
    refine bodyPost_ret (results_list (rs := [.tmp 2, .tmp 3, .tmp 4, .tmp 5, .tmp 6]) rfl (by simp) (.tmp (.tmp (.tmp (.tmp (.tmp .nil)))))) rfl ?_
    exact ⟨by first | rfl | (simp; done) | (simp [*]; done), by repeat (first | exact Drawn0.refl _ | apply Drawn0.step)⟩
  · rw [if_neg c2] at H
    have c2b0 : (a0 == 1) = false := beq_eq_false_iff_ne.mpr c2
    have c2b1 : (a0 != 1) = true := bne_iff_ne.mpr c2
    by_cases c3 : a0 = 2
    · rw [if_pos c3] at H
      have c3b0 : (a0 == 2) = true := beq_iff_eq.mpr c3
      have c3b1 : (a0 != 2) = false := bne_eq_false_iff_eq.mpr c3
      clear c3
      simp only [Option.some.injEq, Prod.mk.injEq] at H
      obtain ⟨rfl, rfl, rfl, rfl, rfl⟩ := H
      go_enter Try.func41, Try.ntmps41
      go_wp2
      refine bodyPost_ret (results_list (rs := [.tmp 2, .tmp 3, .tmp 4, .tmp 5, .tmp 6]) rfl (by simp) (.tmp (.tmp (.tmp (.tmp (.tmp .nil)))))) rfl ?_
      exact ⟨by first | rfl | (simp; done) | (simp [*]; done), by repeat (first | exact Drawn0.refl _ | apply Drawn0.step)⟩
    · rw [if_neg c3] at H
      have c3b0 : (a0 == 2) = false := beq_eq_false_iff_ne.mpr c3
      have c3b1 : (a0 != 2) = true := bne_iff_ne.mpr c3
      by_cases c4 : a0 = 3
      · rw [if_pos c4] at H
        have c4b0 : (a0 == 3) = true := beq_iff_eq.mpr c4
        have c4b1 : (a0 != 3) = false := bne_eq_false_iff_eq.mpr c4
        clear c4
        simp only [Option.some.injEq, Prod.mk.injEq] at H
        obtain ⟨rfl, rfl, rfl, rfl, rfl⟩ := H
        go_enter Try.func41, Try.ntmps41
        go_wp2
        refine bodyPost_ret (results_list (rs := [.tmp 2, .tmp 3, .tmp 4, .tmp 5, .tmp 6]) rfl (by simp) (.tmp (.tmp (.tmp (.tmp (.tmp .nil)))))) rfl ?_
        exact ⟨by first | rfl | (simp; done) | (simp [*]; done), by repeat (first | exact Drawn0.refl _ | apply Drawn0.step)⟩
      · rw [if_neg c4] at H
        have c4b0 : (a0 == 3) = false := beq_eq_false_iff_ne.mpr c4
        have c4b1 : (a0 != 3) = true := bne_iff_ne.mpr c4
        by_cases c5 : a0 = 4
        · rw [if_pos c5] at H
          have c5b0 : (a0 == 4) = true := beq_iff_eq.mpr c5
          have c5b1 : (a0 != 4) = false := bne_eq_false_iff_eq.mpr c5
          clear c5
          simp only [Option.some.injEq, Prod.mk.injEq] at H
          obtain ⟨rfl, rfl, rfl, rfl, rfl⟩ := H
          go_enter Try.func41, Try.ntmps41
          go_wp2
          refine bodyPost_ret (results_list (rs := [.tmp 2, .tmp 3, .tmp 4, .tmp 5, .tmp 6]) rfl (by simp) (.tmp (.tmp (.tmp (.tmp (.tmp .nil)))))) rfl ?_
          exact ⟨by first | rfl | (simp; done) | (simp [*]; done), by repeat (first | exact Drawn0.refl _ | apply Drawn0.step)⟩
        · rw [if_neg c5] at H
          have c5b0 : (a0 == 4) = false := beq_eq_false_iff_ne.mpr c5
          have c5b1 : (a0 != 4) = true := bne_iff_ne.mpr c5
          by_cases c6 : a0 = 5
          · rw [if_pos c6] at H
            have c6b0 : (a0 == 5) = true := beq_iff_eq.mpr c6
            have c6b1 : (a0 != 5) = false := bne_eq_false_iff_eq.mpr c6
            clear c6
            simp only [Option.some.injEq, Prod.mk.injEq] at H
            obtain ⟨rfl, rfl, rfl, rfl, rfl⟩ := H
            go_enter Try.func41, Try.ntmps41
            go_wp2
            refine bodyPost_ret (results_list (rs := [.tmp 2, .tmp 3, .tmp 4, .tmp 5, .tmp 6]) rfl (by simp) (.tmp (.tmp (.tmp (.tmp (.tmp .nil)))))) rfl ?_
            exact ⟨by first | rfl | (simp; done) | (simp [*]; done), by repeat (first | exact Drawn0.refl _ | apply Drawn0.step)⟩
          · rw [if_neg c6] at H
            have c6b0 : (a0 == 5) = false := beq_eq_false_iff_ne.mpr c6
            have c6b1 : (a0 != 5) = true := bne_iff_ne.mpr c6
            by_cases c7 : a0 = 6
            · rw [if_pos c7] at H
              have c7b0 : (a0 == 6) = true := beq_iff_eq.mpr c7
              have c7b1 : (a0 != 6) = false := bne_eq_false_iff_eq.mpr c7
              clear c7
              simp only [Option.some.injEq, Prod.mk.injEq] at H
              obtain ⟨rfl, rfl, rfl, rfl, rfl⟩ := H
              go_enter Try.func41, Try.ntmps41
              go_wp2
              refine bodyPost_ret (results_list (rs := [.tmp 2, .tmp 3, .tmp 4, .tmp 5, .tmp 6]) rfl (by simp) (.tmp (.tmp (.tmp (.tmp (.tmp .nil)))))) rfl ?_
              exact ⟨by first | rfl | (simp; done) | (simp [*]; done), by repeat (first | exact Drawn0.refl _ | apply Drawn0.step)⟩
            · rw [if_neg c7] at H
              have c7b0 : (a0 == 6) = false := beq_eq_false_iff_ne.mpr c7
              have c7b1 : (a0 != 6) = true := bne_iff_ne.mpr c7
              simp only [Option.some.injEq, Prod.mk.injEq] at H
              obtain ⟨rfl, rfl, rfl, rfl, rfl⟩ := H
              go_enter Try.func41, Try.ntmps41
              go_wp2
              refine bodyPost_ret (results_list (rs := [.tmp 2, .tmp 3, .tmp 4, .tmp 5, .tmp 6]) rfl (by simp) (.tmp (.tmp (.tmp (.tmp (.tmp .nil)))))) rfl ?_
              exact ⟨by first | rfl | (simp; done) | (simp [*]; done), by repeat (first | exact Drawn0.refl _ | apply Drawn0.step)⟩

end Go.Proofs.Ythjfmlehkcccfaa.GA
end

section
-- laid by a program of this session (wip/gp.sh)
namespace Go.Proofs.Ythjfmlehkcccfaa.GA
open Go.RowKit Go.Proofs.YthjfmlehkcccfaaW.PrintWords Go.Proofs.YthjfmlehkcccfaaW.PrintLast Go.Proofs.YthjfmlehkcccfaaW.PrintMore
attribute [local go_sem] max2_int min2_int max_two min_two max_three min_three max_four min_four   -- for this text's walks alone
set_option linter.unusedVariables false
set_option linter.unusedSimpArgs false

/-! ### rotaref06_fits: function 42 -/
def rotaref06_fits.f (a0 : Int) (a1 : Bool) : Option (Bool) := if a0 = 0 then (some true) else (if a1 = true then (if a0 > 0 then (some (decide (a0 < 16))) else (some false)) else (some false))
set_option maxHeartbeats 8000000 in
set_option maxRecDepth 100000 in
theorem rotaref06_fits.calls (a0 : Int) (a1 : Bool) (r : Bool) (w : World) (h : rotaref06_fits.f a0 a1 = some r) :
    Calls Try.prog 42 #[.int .i64 a0, .bool a1] w fun e w' => e = .returned (.bool r) ∧ Drawn0 w w' := by
  have H : (if a0 = 0 then (some true) else (if a1 = true then (if a0 > 0 then (some (decide (a0 < 16))) else (some false)) else (some false))) = some r := h
  clear h
  by_cases c3 : a0 = 0
  · rw [if_pos c3] at H
    have c3b0 : (a0 == 0) = true := beq_iff_eq.mpr c3
    have c3b1 : (a0 != 0) = false := bne_eq_false_iff_eq.mpr c3
    clear c3
    obtain rfl := Option.some.inj H
    go_enter Try.func42, Try.ntmps42
    go_wp2
    go_ret
    exact ⟨by first | rfl | (simp; done) | (simp [*]; done), by repeat (first | exact Drawn0.refl _ | apply Drawn0.step)⟩
  · rw [if_neg c3] at H
    have c3b0 : (a0 == 0) = false := beq_eq_false_iff_ne.mpr c3
    have c3b1 : (a0 != 0) = true := bne_iff_ne.mpr c3
    by_cases c4 : a1 = true
    · subst c4
      have H1 : (if a0 > 0 then (some (decide (a0 < 16))) else (some false)) = some r := by rw [if_pos rfl] at H; exact H
      clear H
      have H := H1
      clear H1
      by_cases c5 : a0 > 0
      · rw [if_pos c5] at H
        have c5b0 : decide (0 < a0) = true := decide_eq_true c5
        clear c5
        obtain rfl := Option.some.inj H
        go_enter Try.func42, Try.ntmps42
        go_wp2
        go_ret
        exact ⟨by first | rfl | (simp; done) | (simp [*]; done), by repeat (first | exact Drawn0.refl _ | apply Drawn0.step)⟩
      · rw [if_neg c5] at H
        have c5b0 : decide (0 < a0) = false := decide_eq_false c5
        clear c5
        obtain rfl := Option.some.inj H
        go_enter Try.func42, Try.ntmps42
        go_wp2
        go_ret
        exact ⟨by first | rfl | (simp; done) | (simp [*]; done), by repeat (first | exact Drawn0.refl _ | apply Drawn0.step)⟩
    · replace c4 := Bool.eq_false_iff.mpr c4
      subst c4
      have H1 : (some false) = some r := by rw [if_neg (show ¬ (false = true) by decide)] at H; exact H
      clear H
      have H := H1
      clear H1
      obtain rfl := Option.some.inj H
      go_enter Try.func42, Try.ntmps42
      go_wp2
      go_ret
      exact ⟨by first | rfl | (simp; done) | (simp [*]; done), by repeat (first | exact Drawn0.refl _ | apply Drawn0.step)⟩

end Go.Proofs.Ythjfmlehkcccfaa.GA
end
