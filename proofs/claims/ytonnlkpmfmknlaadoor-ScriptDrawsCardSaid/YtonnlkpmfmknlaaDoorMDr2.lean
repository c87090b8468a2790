import Derived.Test.YtonnlkpmfmknlaaDoorMDr1
import Derived.Test.YtonnlkpmfmknlaaDoorWMore
import Derived.WalkKit
import Derived.Deep.MidRow
import Derived.Test.YtonnlkpmfmknlaaDoorWGuard
import Derived.Laws.Tables
import Derived.Laws.Rows
import Derived.Test.YtonnlkpmfmknlaaDoorWLast
import Derived.Deep.RegionHeld3
import Derived.Test.YtonnlkpmfmknlaaDoorWApart
import Derived.Test.YtonnlkpmfmknlaaDoorMDr0
import Derived.Deep.QuietTactic
import Derived.BigQuiet
import Derived.Lib.Hide
import Derived.Outline
section
/-
  The memory of a call's own as one record.
-/
set_option linter.unusedVariables false
set_option linter.unusedSimpArgs false
namespace Go.Proofs.YtonnlkpmfmknlaaDoor.Hctx
open Go.RowKit Go.Proofs.YtonnlkpmfmknlaaDoorW.PrintWords Go.Proofs.YtonnlkpmfmknlaaDoorW.PrintLast Go.Proofs.YtonnlkpmfmknlaaDoorW.PrintMore
/-- A row of the call's own. -/
structure Row where
  {α : Type}
  (d : Kd α) (e : TypeId) (v : Value) (xs : List α)
/-- What a row may hold: no other row's block. -/
def okOf (rows : List Row) (i k : Nat) : Prop := ∀ (j : Nat) (s : Row), rows[j]? = some s → j ≠ i → some k ≠ s.v.ownBlock
/-- The memory of a call's own: blocks known whole, and rows (es: the types of what lies in rows). -/
structure Mem (es : List TypeId) (w0 W : World) (l : List (Nat × Array Value × TypeId)) (rows : List Row) : Prop where
  below : Below w0.heap.size w0 W
  blk : ∀ x, x ∈ l → W.heap[x.1]? = some (.cells x.2.1 x.2.2 (0, 0)) ∧ w0.heap.size ≤ x.1 ∧ x.2.2 ∉ es
  apart : l.Pairwise (fun x y => x.1 ≠ y.1)
  typ : ∀ r, r ∈ rows → ∀ q, q ∈ r.e :: r.d.E → q ∈ es
  owns : ∀ (i : Nat) (r : Row), rows[i]? = some r → r.d.R r.e W w0.heap.size (okOf rows i) r.v r.xs
variable {es : List TypeId} {w0 W W1 : World} {l : List (Nat × Array Value × TypeId)} {rows : List Row} {α : Type} {d : Kd α} {e : TypeId} {v : Value} {xs : List α}
theorem Mem.start (es : List TypeId) (w0 : World) : Mem es w0 w0 [] [] := ⟨Below.refl _ _, (fun x hx => by cases hx), List.Pairwise.nil, (fun r hr => by cases hr), (fun i r hr => by simp at hr)⟩
theorem Mem.own (M : Mem es w0 W l (⟨d, e, v, xs⟩ :: rows)) : d.R e W w0.heap.size (fun _ => True) v xs := Kd.R_mono (M.owns 0 _ rfl) (fun _ _ => trivial)
theorem Mem.ownAt (M : Mem es w0 W l rows) (i : Nat) (h : rows[i]? = some ⟨d, e, v, xs⟩) : d.R e W w0.heap.size (fun _ => True) v xs := Kd.R_mono (M.owns i _ h) (fun _ _ => trivial)
theorem Mem.at (M : Mem es w0 W l rows) (i : Nat) {g : Nat} {cs : Array Value} {t : TypeId} (h : l[i]? = some (g, cs, t)) : W.heap[g]? = some (.cells cs t (0, 0)) :=
  (M.blk _ (List.mem_of_getElem? h)).1
theorem Mem.ge (M : Mem es w0 W l rows) (i : Nat) {g : Nat} {cs : Array Value} {t : TypeId} (h : l[i]? = some (g, cs, t)) : w0.heap.size ≤ g :=
  (M.blk _ (List.mem_of_getElem? h)).2.1
theorem Mem.ne (M : Mem es w0 W l rows) (i j : Nat) (hij : i < j) {g g' : Nat} {cs cs' : Array Value} {t t' : TypeId} (h : l[i]? = some (g, cs, t)) (h' : l[j]? = some (g', cs', t')) : g ≠ g' := by
  have hi := (List.getElem?_eq_some_iff.1 h)
  have hj := (List.getElem?_eq_some_iff.1 h')
  have := List.pairwise_iff_getElem.1 M.apart i j hi.1 hj.1 hij
  rw [hi.2, hj.2] at this
  exact this
theorem Mem.call (M : Mem es w0 W l rows) (hb : Below W.heap.size W W1) : Mem es w0 W1 l rows :=
  ⟨below_step M.below hb, fun x hx => ⟨blk_below (M.blk x hx).1 hb, (M.blk x hx).2⟩, M.apart, M.typ, fun i r hr => Kd.R_below (M.owns i r hr) hb⟩
theorem Mem.drewN (M : Mem es w0 W l rows) (n : Nat) : Mem es w0 (W.drewN n) l rows :=
  ⟨pw_below_drewN M.below n, fun x hx => ⟨blk_drewN (M.blk x hx).1 n, (M.blk x hx).2⟩, M.apart, M.typ, fun i r hr => Kd.R_drewN (M.owns i r hr) n⟩
theorem Mem.box (M : Mem es w0 W l rows) {g : Nat} {cs : Array Value} {t : TypeId} (hg : g = W.heap.size) (hbox : W1.heap[g]? = some (.cells cs t (0, 0))) (hb : Below W.heap.size W W1) (ht : t ∉ es) : Mem es w0 W1 (l ++ [(g, cs, t)]) rows := by
  have M1 := M.call hb
  refine ⟨M1.below, fun x hx => ?_, ?_, M1.typ, M1.owns⟩
  · rcases List.mem_append.1 hx with h | h
    · exact M1.blk x h
    · rw [List.mem_singleton] at h; subst h
      exact ⟨hbox, by rw [hg]; exact below_size M.below, ht⟩
  · refine List.pairwise_append.2 ⟨M1.apart, List.pairwise_singleton _ _, fun x hx y hy => ?_⟩
    rw [List.mem_singleton] at hy; subst hy
    have := blk_lt (M.blk x hx).1
    show x.1 ≠ g
    omega
theorem Mem.keep (M : Mem es w0 W l rows) (i : Nat) {g : Nat} {cs cs' : Array Value} {t : TypeId} (h : l[i]? = some (g, cs, t)) (hn : W1.heap[g]? = some (.cells cs' t (0, 0))) (hk : KeepBut W W1 g none) (hb : Below w0.heap.size w0 W1) : Mem es w0 W1 (l.set i (g, cs', t)) rows := by
  have hi := List.getElem?_eq_some_iff.1 h
  have ht := (M.blk _ (List.mem_of_getElem? h))
  refine ⟨hb, fun x hx => ?_, ?_, M.typ, ?_⟩
  · obtain ⟨j, hj⟩ := List.mem_iff_getElem?.1 hx
    rw [List.getElem?_set] at hj
    by_cases hij : i = j
    · subst hij
      rw [if_pos rfl, if_pos hi.1] at hj
      obtain rfl := Option.some.inj hj
      exact ⟨hn, ht.2⟩
    · rw [if_neg hij] at hj
      have hxl := List.mem_of_getElem? hj
      refine ⟨hk.blk (M.blk x hxl).1 ?_ (by simp), (M.blk x hxl).2⟩
      rcases Nat.lt_or_gt_of_ne hij with hlt | hlt
      · exact (M.ne i j hlt h (g' := x.1) (cs' := x.2.1) (t' := x.2.2) hj).symm
      · exact M.ne j i hlt (g := x.1) (cs := x.2.1) (t := x.2.2) hj h
  · rw [List.pairwise_iff_getElem]
    intro a b ha hb' hab
    rw [List.length_set] at ha hb'
    have := List.pairwise_iff_getElem.1 M.apart a b ha hb' hab
    rw [List.getElem_set, List.getElem_set]
    by_cases h1 : i = a
    · subst h1
      rw [if_pos rfl, if_neg (by omega)]
      rw [hi.2] at this
      exact this
    · rw [if_neg h1]
      by_cases h2 : i = b
      · subst h2
        rw [if_pos rfl]
        rw [hi.2] at this
        exact this
      · rw [if_neg h2]; exact this
  · intro j r hr
    exact Kd.R_mono (Kd.R_keep (Kd.R_types (M.owns j r hr) ht.1 (fun q hq hqt => ht.2.2 (by
      have := M.typ r (List.mem_of_getElem? hr) q hq
      rwa [hqt] at this))) hk (fun _ h_ => h_.2)) (fun _ h_ => h_.1)
theorem Mem.set (M : Mem es w0 W l rows) (i : Nat) {g : Nat} {cs : Array Value} {t : TypeId} (h : l[i]? = some (g, cs, t)) (j : Nat) (u : Value) : Mem es w0 (W.setCell ⟨g, j, none⟩ u) (l.set i (g, cs.setIfInBounds j u, t)) rows :=
  M.keep i h (blk_set (M.at i h) j u) ((KeepBut.refl W g none).set_ j u) (below_set M.below (M.ge i h))
/-- A new row, made by a callee. -/
theorem Mem.row (M : Mem es w0 W l rows) (hb : Below W.heap.size W W1) (h : d.R e W1 W.heap.size (fun _ => True) v xs) (ht : ∀ q, q ∈ e :: d.E → q ∈ es := by decide) : Mem es w0 W1 l (⟨d, e, v, xs⟩ :: rows) := by
  have M1 := M.call hb
  refine ⟨M1.below, M1.blk, M1.apart, fun r hr => ?_, fun i r hr => ?_⟩
  · rcases List.mem_cons.1 hr with rfl | hr
    · exact ht
    · exact M.typ r hr
  · cases i with
    | zero =>
      obtain rfl : _ = r := by simpa using hr
      refine Kd.R_lower (Kd.R_mono (Kd.R_bound h) (fun k hk j s hs hj hks => ?_)) (below_size M.below)
      obtain ⟨j, rfl⟩ : ∃ m, j = m + 1 := ⟨j - 1, by omega⟩
      have := Kd.R_lt (M.owns j s (by simpa using hs)) k hks.symm
      have := hk.2.1
      omega
    | succ i =>
      have hr' : rows[i]? = some r := by simpa using hr
      refine Kd.R_mono (Kd.R_below (Kd.R_bound (M.owns i r hr')) hb) (fun k hk j s hs hj hks => ?_)
      cases j with
      | zero =>
        obtain rfl : _ = s := by simpa using hs
        have := Kd.R_base h k hks.symm
        have := hk.2.2.1
        omega
      | succ j => exact hk.1 j s (by simpa using hs) (by omega) hks
theorem Mem.cell (M : Mem es w0 W l rows) (i : Nat) {g : Nat} {cs : Array Value} {t : TypeId} (h : l[i]? = some (g, cs, t)) (j : Nat) : W.cell? ⟨g, j, none⟩ = cs[j]? := blk_cell (M.at i h) j
theorem Mem.free (M : Mem es w0 W l rows) (i : Nat) {g : Nat} {cs : Array Value} {t : TypeId} (h : l[i]? = some (g, cs, t)) (j : Nat) : W.frozen? ⟨g, j, none⟩ = false := blk_frozen (M.at i h) j
theorem Mem.range (M : Mem es w0 W l rows) (i : Nat) {g : Nat} {cs : Array Value} {t : TypeId} (h : l[i]? = some (g, cs, t)) : W.rangeAt g 0 cs.toList := fun j u hu => by
  rw [Nat.zero_add, M.cell i h j]; simpa using hu
theorem Mem.there (M : Mem es w0 W l rows) (i : Nat) {g : Nat} {cs : Array Value} {t : TypeId} (h : l[i]? = some (g, cs, t)) : W.there g 0 cs.size := fun j hj => by
  rw [Nat.zero_add, M.cell i h j, M.free i h j]
  exact ⟨by rw [Array.getElem?_eq_getElem hj]; rfl, rfl⟩
theorem setCells_keep (g : Nat) : ∀ (us : List Value) (o : Nat) (W : World), KeepBut W (W.setCells g o us) g none
  | [], _, W => KeepBut.refl W g none
  | u :: us, o, W => by
    rw [World.setCells]
    exact KeepBut.trans ((KeepBut.refl W g none).set_ o u) (setCells_keep g us (o + 1) _) (.inl rfl)
theorem setCells_below {B : Nat} {w : World} (g : Nat) (hg : B ≤ g) : ∀ (us : List Value) (o : Nat) (W : World), Below B w W → Below B w (W.setCells g o us)
  | [], _, W, h => h
  | u :: us, o, W, h => by
    rw [World.setCells]
    exact setCells_below g hg us (o + 1) _ (h.setCell hg _)
theorem setCells_blk (g : Nat) {t : TypeId} : ∀ (us pre suf : List Value) (W : World), W.heap[g]? = some (.cells (pre ++ suf).toArray t (0, 0)) → us.length = suf.length → (W.setCells g pre.length us).heap[g]? = some (.cells (pre ++ us).toArray t (0, 0))
  | [], pre, suf, W, h, hl => by
    obtain rfl : suf = [] := List.length_eq_zero_iff.1 (by simpa using hl.symm)
    exact h
  | u :: us, pre, suf, W, h, hl => by
    obtain ⟨s, suf, rfl⟩ : ∃ s r, suf = s :: r := by cases suf with | nil => simp at hl | cons s r => exact ⟨s, r, rfl⟩
    rw [World.setCells]
    have h1 := blk_set h pre.length u
    have e : (pre ++ s :: suf).toArray.setIfInBounds pre.length u = ((pre ++ [u]) ++ suf).toArray := by simp
    rw [e] at h1
    have := setCells_blk g us (pre ++ [u]) suf _ h1 (by simpa using hl)
    simpa using this
theorem Mem.cells (M : Mem es w0 W l rows) (i : Nat) {g : Nat} {cs : Array Value} {t : TypeId} (h : l[i]? = some (g, cs, t)) (us : Array Value) (hl : us.size = cs.size) : Mem es w0 (W.setCells g 0 us.toList) (l.set i (g, us, t)) rows := by
  refine M.keep i h ?_ (setCells_keep g us.toList 0 W) (setCells_below g (M.ge i h) us.toList 0 W M.below)
  have := setCells_blk g (t := t) us.toList [] cs.toList W (by simpa using M.at i h) (by simpa using hl)
  simpa using this
/-- The first row has been written: a store into it, an append to it. -/
theorem Mem.written (M : Mem es w0 W l (⟨d, e, v, xs⟩ :: rows)) (hb : Below w0.heap.size w0 W1) (hg : W.grownBy W1 v.ownBlock) {v1 : Value} {ys : List α}
    (h : d.R e W1 w0.heap.size (okOf (⟨d, e, v, xs⟩ :: rows) 0) v1 ys) (hat : v1.ownBlock = v.ownBlock ∨ ∃ b, v1.ownBlock = some b ∧ W.heap.size ≤ b) : Mem es w0 W1 l (⟨d, e, v1, ys⟩ :: rows) := by
  refine ⟨hb, fun x hx => ?_, M.apart, fun r hr => ?_, fun i r hr => ?_⟩
  · have hx' := M.blk x hx
    refine ⟨blk_grown hx'.1 hg (fun he => ?_), hx'.2⟩
    obtain ⟨cells, hc⟩ := Kd.R_typed (M.owns 0 _ rfl) x.1 he.symm
    have h2 := hx'.1.symm.trans hc
    injection h2 with h2
    injection h2 with _ h3 _
    exact hx'.2.2 (by rw [h3]; exact M.typ _ List.mem_cons_self _ List.mem_cons_self)
  · rcases List.mem_cons.1 hr with rfl | hr
    · exact M.typ ⟨d, e, v, xs⟩ List.mem_cons_self
    · exact M.typ r (List.mem_cons_of_mem _ hr)
  · cases i with
    | zero =>
      obtain rfl : _ = r := by simpa using hr
      refine Kd.R_mono h (fun k hk j s hs hj => ?_)
      obtain ⟨j, rfl⟩ : ∃ m, j = m + 1 := ⟨j - 1, by omega⟩
      exact hk (j + 1) s (by simpa using hs) (by omega)
    | succ i =>
      have hr' : (⟨d, e, v, xs⟩ :: rows)[i + 1]? = some r := by simpa using hr
      have h0 := M.owns (i + 1) r hr'
      refine Kd.R_mono (Kd.R_grown (Kd.R_bound h0) hg (fun k hk => hk.1 0 _ rfl (by omega))) (fun k hk j s hs hj => ?_)
      cases j with
      | zero =>
        obtain rfl : _ = s := by simpa using hs
        rcases hat with he | ⟨b, he, hbb⟩
        · show some k ≠ v1.ownBlock
          rw [he]
          exact hk.1 0 _ rfl (by omega)
        · show some k ≠ v1.ownBlock
          rw [he]
          intro hkb
          injection hkb with hkb
          have := hk.2.2.1
          omega
      | succ j => exact hk.1 (j + 1) s (by simpa using hs) (by omega)
/-- Fresh blocks are no other row's. -/
theorem Mem.okFresh (M : Mem es w0 W l rows) (i k : Nat) (hk : W.heap.size ≤ k) : okOf rows i k := fun j s hs hj he => by
  have := Kd.R_lt (M.owns j s hs) k he.symm
  omega
theorem okOne (r : Row) (k : Nat) : okOf [r] 0 k := fun j s hs hj => by
  cases j with
  | zero => exact absurd rfl hj
  | succ j => simp at hs
theorem Mem.append (M : Mem es w0 W l [⟨d, e, v, xs⟩]) (hb : Below w0.heap.size w0 W1) (hg : W.grownBy W1 v.ownBlock) {v1 : Value} {ys : List α} (h : d.R e W1 w0.heap.size (fun _ => True) v1 ys)
    (hat : v1.ownBlock = v.ownBlock ∨ ∃ b, v1.ownBlock = some b ∧ W.heap.size ≤ b) : Mem es w0 W1 l [⟨d, e, v1, ys⟩] :=
  M.written hb hg (Kd.R_mono h (fun k _ => okOne _ k)) hat
/-- The first row as another value (a part of it). -/
theorem Mem.own_to (M : Mem es w0 W l [⟨d, e, v, xs⟩]) {v1 : Value} {ys : List α} (h : d.R e W w0.heap.size (fun _ => True) v1 ys) : Mem es w0 W l [⟨d, e, v1, ys⟩] :=
  ⟨M.below, M.blk, M.apart, fun r hr => by rw [List.mem_singleton] at hr; subst hr; exact M.typ ⟨d, e, v, xs⟩ List.mem_cons_self, fun i r hr => by
    cases i with
    | zero =>
      obtain rfl : _ = r := by simpa using hr
      exact Kd.R_mono h (fun k _ => okOne _ k)
    | succ i => simp at hr⟩
/-- Fewer rows. -/
theorem Mem.tail {r : Row} (M : Mem es w0 W l (r :: rows)) : Mem es w0 W l rows :=
  ⟨M.below, M.blk, M.apart, fun s hs => M.typ s (List.mem_cons_of_mem _ hs), fun i s hs => Kd.R_mono (M.owns (i + 1) s (by simpa using hs)) (fun k hk j s' hs' hj => hk (j + 1) s' (by simpa using hs') (by omega))⟩
theorem Mem.none (M : Mem es w0 W l rows) : Mem es w0 W l [] := ⟨M.below, M.blk, M.apart, (fun r hr => by cases hr), (fun i r hr => by simp at hr)⟩
theorem Mem.drawn (M : Mem es w0 W l rows) (h : Drawn0 W W1) : Mem es w0 W1 l rows := by
  obtain ⟨n, rfl⟩ := h
  exact M.drewN n
theorem Mem.drew (M : Mem es w0 W l rows) : Mem es w0 W.drew l rows :=
  ⟨M.below.drew, fun x hx => ⟨blk_drew (M.blk x hx).1, (M.blk x hx).2⟩, M.apart, M.typ, fun i r hr => Kd.R_drew (M.owns i r hr)⟩
end Go.Proofs.YtonnlkpmfmknlaaDoor.Hctx
end

section
/-
  The events of a walk over a call's own memory (boxes known whole), one short lemma each.
-/
set_option linter.unusedVariables false
set_option linter.unusedSimpArgs false
namespace Go.Proofs.YtonnlkpmfmknlaaDoor.Hctx
open Go.RowKit Go.Proofs.YtonnlkpmfmknlaaDoorW.PrintWords Go.Proofs.YtonnlkpmfmknlaaDoorW.PrintLast Go.Proofs.YtonnlkpmfmknlaaDoorW.PrintMore
section
variable {P : Program} {ops : Array Oper} {rest : List Oper} {o : Oper} {a : Act} {Q : Exit → Act → World → Prop} {e : List TypeId} {w0 W : World} {l : List (Nat × Array Value × TypeId)} {rows : List Row}
/-- A box (a variable in memory). -/
theorem eB (M : Aside0 (Mem e w0 W l rows)) (N : Tmp) (cs : Array Value) (t : TypeId)
    (h : ∀ g w1, Aside0 (Mem e w0 w1 (l ++ [(g, cs, t)]) rows) → wpList P ops Q rest (a.put o.dst (.pointer (some ⟨g, 0, none⟩))) w1)
    (hd : o.dst = some N := by with_reducible rfl) (hgd : o.guard = none := by with_reducible rfl) (he : t ∉ e := by decide)
    (hr : (execOp a.eval o).run P W = .ok (.value (.pointer (some ⟨W.heap.size, 0, none⟩))) (W.alloc (.cells cs t (0, 0))) := by first | (go_simp; done) | (go_simp; rfl)) :
    wpList P ops Q (o :: rest) a W :=
  box_event hgd hd hr fun g hg w1 hbox hb => h g w1 ⟨Mem.box M.out hg hbox hb he⟩
/-- A whole box is loaded. -/
theorem eL {d : TypeDesc} {ty : TypeId} (M : Aside0 (Mem e w0 W l rows)) (N : Tmp) (i : Nat) (hu : P.underlying ty = some d) {g : Nat} {cs : Array Value} {tb : TypeId} {p : Tmp}
    (h : wpList P ops Q rest (a.put o.dst (.agg cs)) W)
    (hd : o.dst = some N := by with_reducible rfl) (hgd : o.guard = none := by with_reducible rfl) (ho : o.op = .load ty (.tmp p) := by with_reducible rfl)
    (hi : l[i]? = some (g, cs, tb) := by rfl) (hx : a.eval (.tmp p) = .pointer (some ⟨g, 0, none⟩) := by rfl)
    (hdd : (match d with | .struct _ | .array _ _ => true | _ => false) = true := by rfl) (hs : (P.info? ty).map (·.size) = some cs.size := by kernel_rfl) :
    wpList P ops Q (o :: rest) a W :=
  wpList_load_row hgd ty (.tmp p) ho g hx tb cs (0, 0) d (M.out.at i hi) hu hdd hs h
/-- A cell of a box is loaded. -/
theorem eC (M : Aside0 (Mem e w0 W l rows)) (N : Tmp) (i j : Nat) (u : Value) {g : Nat} {cs : Array Value} {tb t : TypeId} {p : Tmp}
    (h : wpList P ops Q rest (a.put o.dst u) W)
    (hd : o.dst = some N := by with_reducible rfl) (hgd : o.guard = none := by with_reducible rfl) (ho : o.op = .load t (.tmp p) := by with_reducible rfl)
    (hi : l[i]? = some (g, cs, tb) := by rfl) (hv : cs[j]? = some u := by rfl) (hx : a.eval (.tmp p) = .pointer (some ⟨g, j, none⟩) := by first | rfl | (go_simp; done) | (go_simp; rfl))
    (hna : ∀ w, (isAgg t).run P w = .ok false w := by intro _; kernel_rfl) :
    wpList P ops Q (o :: rest) a W :=
  load_event hgd hd ho ⟨g, j, none⟩ u hx hna ((M.out.cell i hi j).trans hv) h
/-- A whole box is stored. -/
theorem eR (M : Aside0 (Mem e w0 W l rows)) (t : TypeId) (p : Tmp) (i : Nat) (new : Array Value) {g : Nat} {old : Array Value} {tb : TypeId} {x : Operand}
    (h : ∀ w', Aside0 (Mem e w0 w' (l.set i (g, new, tb)) rows) → wpList P ops Q rest a w')
    (ho : o.op = .store t (.tmp p) x := by with_reducible rfl) (hn : o.dst = none := by with_reducible rfl) (hgd : o.guard = none := by with_reducible rfl)
    (hi : l[i]? = some (g, old, tb) := by rfl) (hx : a.eval (.tmp p) = .pointer (some ⟨g, 0, none⟩) := by rfl) (hv : a.eval x = .agg new := by first | rfl | (go_simp; done) | (go_simp; rfl))
    (hs : (P.info? t).map (·.size) = some new.size := by kernel_rfl) (hso : old.size = new.size := by rfl) (h1 : new.all (·.oneCell') = true := by kernel_rfl) :
    wpList P ops Q (o :: rest) a W :=
  row_event hgd ho hn g old new hx hv (M.out.at i hi) hs hso h1 fun w' hn' hk hb => h w' ⟨Mem.keep M.out i hi hn' hk (hb w0 M.out.below (M.out.ge i hi))⟩
/-- A cell of a box is stored. -/
theorem eS (M : Aside0 (Mem e w0 W l rows)) (t : TypeId) (p : Tmp) (i j : Nat) (u : Value) (new : Array Value) {g : Nat} {cs : Array Value} {tb : TypeId} {x : Operand}
    (h : ∀ w', Aside0 (Mem e w0 w' (l.set i (g, new, tb)) rows) → wpList P ops Q rest a w')
    (ho : o.op = .store t (.tmp p) x := by with_reducible rfl) (hn : o.dst = none := by with_reducible rfl) (hgd : o.guard = none := by with_reducible rfl)
    (hi : l[i]? = some (g, cs, tb) := by rfl) (hx : a.eval (.tmp p) = .pointer (some ⟨g, j, none⟩) := by first | rfl | (go_simp; done) | (go_simp; rfl)) (hv : a.eval x = u := by first | rfl | (go_simp; done) | (go_simp; rfl))
    (hj : cs[j]?.isSome = true := by rfl) (hs : (P.info? t).map (·.size) = some 1 := by kernel_rfl) (h1 : u.oneCell' = true := by rfl) (hnew : cs.setIfInBounds j u = new := by rfl) :
    wpList P ops Q (o :: rest) a W :=
  cell_event hgd ho hn g j cs u hx hv (M.out.at i hi) hj hs h1 fun w' hn' hk hb => h w' ⟨Mem.keep M.out i hi (hnew ▸ hn') hk (hb w0 M.out.below (M.out.ge i hi))⟩
/-- A cell of known content is loaded (an element of a row). -/
theorem eX (N : Tmp) {ad : Addr} {u : Value} (hc : W.cell? ad = some u) {t : TypeId} {p : Tmp}
    (h : wpList P ops Q rest (a.put o.dst u) W)
    (hd : o.dst = some N := by with_reducible rfl) (hgd : o.guard = none := by with_reducible rfl) (ho : o.op = .load t (.tmp p) := by with_reducible rfl)
    (hx : a.eval (.tmp p) = .pointer (some ad) := by first | rfl | (go_simp; done) | (go_simp; rfl)) (hna : ∀ w, (isAgg t).run P w = .ok false w := by intro _; kernel_rfl) :
    wpList P ops Q (o :: rest) a W :=
  load_event hgd hd ho ad u hx hna hc h
end
end Go.Proofs.YtonnlkpmfmknlaaDoor.Hctx
end

section
/-
  Regions that draw their order, over a call's own memory: each operation as one short lemma.
-/
set_option linter.unusedVariables false
set_option linter.unusedSimpArgs false
namespace Go.Proofs.YtonnlkpmfmknlaaDoor.Hctx
open Go.RowKit Go.Proofs.YtonnlkpmfmknlaaDoorW.PrintWords Go.Proofs.YtonnlkpmfmknlaaDoorW.PrintLast Go.Proofs.YtonnlkpmfmknlaaDoorW.PrintMore
/-- Cells that are known at the call's beginning. -/
def Cells (w0 : World) (T : List (Addr × Value)) : Prop := ∀ c ∈ T, w0.cell? c.1 = some c.2
theorem Cells.nil (w0 : World) : Cells w0 [] := fun c hc => by cases hc
theorem Cells.one {w0 : World} {ad : Addr} {u : Value} (h : w0.cell? ad = some u) : Cells w0 [(ad, u)] := fun c hc => by rw [List.mem_singleton] at hc; subst hc; exact h
/-- The boxes that a region reads, as they are; and the cells. -/
def Held (L : List (Nat × Array Value × TypeId)) (T : List (Addr × Value)) (w : World) : Prop := (∀ x ∈ L, w.heap[x.1]? = some (.cells x.2.1 x.2.2 (0, 0))) ∧ ∀ c ∈ T, w.cell? c.1 = some c.2
section
variable {P : Program} {ops : Array Oper} {md : Region.Mode} {o : Oper} {a : Act} {Q : Exit → Act → World → Prop} {e : List TypeId} {w0 w W : World} {l L : List (Nat × Array Value × TypeId)} {T : List (Addr × Value)} {rows : List Row} {fuel : Nat} {listed : Array Bool} {ds : List Nat}
theorem Mem.perm {l' : List (Nat × Array Value × TypeId)} (M : Mem e w0 W l rows) (h : l.Perm l') : Mem e w0 W l' rows :=
  ⟨M.below, fun x hx => M.blk x (h.mem_iff.2 hx), h.pairwise M.apart (fun hxy => Ne.symm hxy), M.typ, M.owns⟩
/-- Fewer boxes. -/
theorem Mem.forget (M : Mem e w0 W l rows) (n : Nat) : Mem e w0 W (l.take n) rows :=
  ⟨M.below, fun x hx => M.blk x (List.mem_of_mem_take hx), M.apart.sublist (List.take_sublist n l), M.typ, M.owns⟩
theorem Mem.pick1 (M : Mem e w0 W l rows) (i : Nat) {r : Row} (hi : rows[i]? = some r) : Mem e w0 W l [r] :=
  ⟨M.below, M.blk, M.apart, fun x hx => by rw [List.mem_singleton] at hx; subst hx; exact M.typ _ (List.mem_of_getElem? hi), fun n x hx => by
    cases n with
    | zero =>
      obtain rfl : r = x := by simpa using hx
      exact Kd.R_mono (M.owns i _ hi) (fun k _ => okOne _ k)
    | succ n => simp at hx⟩
theorem Mem.pick2 (M : Mem e w0 W l rows) (i j : Nat) {r s : Row} (hij : i ≠ j) (hi : rows[i]? = some r) (hj : rows[j]? = some s) : Mem e w0 W l [r, s] :=
  ⟨M.below, M.blk, M.apart, fun x hx => by
    rcases List.mem_cons.1 hx with rfl | hx
    · exact M.typ _ (List.mem_of_getElem? hi)
    · rw [List.mem_singleton] at hx; subst hx; exact M.typ _ (List.mem_of_getElem? hj), fun n x hx => by
    match n with
    | 0 =>
      obtain rfl : r = x := by simpa using hx
      refine Kd.R_mono (M.owns i _ hi) (fun k hk m y hy hm => ?_)
      match m with
      | 0 => exact absurd rfl hm
      | 1 => obtain rfl : s = y := by simpa using hy
             exact hk j _ hj (Ne.symm hij)
      | m + 2 => simp at hy
    | 1 =>
      obtain rfl : s = x := by simpa using hx
      refine Kd.R_mono (M.owns j _ hj) (fun k hk m y hy hm => ?_)
      match m with
      | 0 => obtain rfl : r = y := by simpa using hy
             exact hk i _ hi hij
      | 1 => exact absurd rfl hm
      | m + 2 => simp at hy
    | n + 2 => simp at hx⟩
theorem Mem.held (M : Mem e w0 W l rows) (hT : Cells w0 T) (h : l.take L.length = L) : Held L T W := by
  refine ⟨fun x hx => ?_, fun c hc => ?_⟩
  · rw [← h] at hx
    exact (M.blk x (List.mem_of_mem_take hx)).1
  · have h0 := hT c hc
    rw [M.below.cell (World.block_lt_of_cell? w0 c.1 h0)]
    exact h0
theorem Held.at (H : Held L T W) (i : Nat) {g : Nat} {cs : Array Value} {t : TypeId} (h : L[i]? = some (g, cs, t)) : W.heap[g]? = some (.cells cs t (0, 0)) := H.1 _ (List.mem_of_getElem? h)
/-- The beginning: ds are the operations (stores) behind which nothing is read any more; T the cells that are read besides. -/
theorem dStart {id : Nat} (ds : List Nat) (T : List (Addr × Value)) (M : Aside0 (Mem e w0 W l rows))
    (h : ∀ W', Aside0 (Mem e w0 W' l rows) → wpAnyLast P .any ops (NoPanic Q) (Held l T) ds ops.size (Array.replicate ops.size false) a W')
    (hm : P.follows .mixedOrders = true := by kernel_rfl) (hT : Cells w0 T := by first | exact Cells.nil _ | assumption) : (Code.region id ops true).wp P Q a W := by
  refine wp_region_noPanic ?_
  exact wp_region_last_drew hm ((Mem.drew M.out).held hT (List.take_of_length_le (Nat.le_refl _))) (fun _ => h _ ⟨Mem.drew M.out⟩)
/-- An operation that yields u in every world that holds L. -/
theorem dY (M : Aside0 (Mem e w0 w l rows)) (i : Nat) (N : Tmp) (u : Value) (hy : YieldsIf P ops (Held L T) o u a)
    (h : wpAnyLast P md ops (NoPanic Q) (Held L T) ds fuel (listed.setIfInBounds i true) (a.put (some N) u) w) (hoi : ops[i]? = some o) (hN : o.dst = some N)
    (hs : Region.noSelect ops = true) (hf : Region.free md ops listed i = true) (hr : (Region.ready md ops listed).contains i = true) (hc : Region.closedB md ops listed = true) (hla : Region.lastB md ops listed ds i = true) (hl : l.take L.length = L) (hT : Cells w0 T) : wpAnyLast P md ops (NoPanic Q) (Held L T) ds (fuel + 1) listed a w :=
  wpAnyLast_take hoi hs hf hr hc hla (fun _ _ _ h => h) hy (M.out.held hT hl) (by rw [hN]; exact h)
/-- A whole box is loaded. -/
theorem dL {ty : TypeId} {d : TypeDesc} (M : Aside0 (Mem e w0 w l rows)) (i : Nat) (N : Tmp) (k : Nat) (hu : P.underlying ty = some d) {p : Tmp} {g : Nat} {cs : Array Value} {tb : TypeId}
    (h : wpAnyLast P md ops (NoPanic Q) (Held L T) ds fuel (listed.setIfInBounds i true) (a.put (some N) (.agg cs)) w)
    (hoi : ops[i]? = some o := by rfl) (hN : o.dst = some N := by rfl) (ho : o.op = .load ty (.tmp p) := by rfl) (hw : Region.wanted o (yielded ops a.tmps) = true := by rfl)
    (hk : L[k]? = some (g, cs, tb) := by rfl) (hx : a.eval (.tmp p) = .pointer (some ⟨g, 0, none⟩) := by rfl) (hd : (match d with | .struct _ | .array _ _ => true | _ => false) = true := by rfl) (hi : (P.info? ty).map (·.size) = some cs.size := by kernel_rfl)
    (hs : Region.noSelect ops = true := by kernel_rfl) (hf : Region.free md ops listed i = true := by kernel_rfl) (hr : (Region.ready md ops listed).contains i = true := by kernel_rfl) (hc : Region.closedB md ops listed = true := by kernel_rfl) (hla : Region.lastB md ops listed ds i = true := by kernel_rfl) (hl : l.take L.length = L := by rfl) (hT : Cells w0 T := by first | exact Cells.nil _ | assumption) : wpAnyLast P md ops (NoPanic Q) (Held L T) ds (fuel + 1) listed a w :=
  dY M i N _ (.inl ⟨hw, fun w' hw' => by
    unfold execOp
    simp only [ho, hx, Instr.loadAt, Instr.sureAddr, Sem.run_bind, Sem.run_pure, Result.andThen_ok, run_loadVar_row w' g tb ty cs (0, 0) d (hw'.at k hk) hu hd hi]⟩) h hoi hN hs hf hr hc hla hl hT
theorem run_load_cell {ty : TypeId} {p : Tmp} {ad : Addr} {u : Value} {w' : World} (ho : o.op = .load ty (.tmp p)) (hx : a.eval (.tmp p) = .pointer (some ad)) (hc : w'.cell? ad = some u) (hna : ∀ w, (isAgg ty).run P w = .ok false w) : (execOp a.eval o).run P w' = .ok (.value u) w' := by
  have hl : (loadVar ty ad).run P w' = .ok u w' := by
    unfold loadVar
    rw [Sem.run_bind, hna w']
    show (load ad).run P w' = _
    rw [run_load, hc]
  unfold execOp
  simp only [ho, hx, Instr.loadAt, Instr.sureAddr, Sem.run_bind, Sem.run_pure, Result.andThen_ok, hl]
/-- A cell of a box is loaded. -/
theorem dC {ty : TypeId} (M : Aside0 (Mem e w0 w l rows)) (i : Nat) (N : Tmp) (k j : Nat) (u : Value) {p : Tmp} {g : Nat} {cs : Array Value} {tb : TypeId}
    (h : wpAnyLast P md ops (NoPanic Q) (Held L T) ds fuel (listed.setIfInBounds i true) (a.put (some N) u) w)
    (hoi : ops[i]? = some o := by rfl) (hN : o.dst = some N := by rfl) (ho : o.op = .load ty (.tmp p) := by rfl) (hw : Region.wanted o (yielded ops a.tmps) = true := by rfl)
    (hk : L[k]? = some (g, cs, tb) := by rfl) (hv : cs[j]? = some u := by rfl) (hx : a.eval (.tmp p) = .pointer (some ⟨g, j, none⟩) := by rfl) (hna : ∀ w, (isAgg ty).run P w = .ok false w := by intro _; kernel_rfl)
    (hs : Region.noSelect ops = true := by kernel_rfl) (hf : Region.free md ops listed i = true := by kernel_rfl) (hr : (Region.ready md ops listed).contains i = true := by kernel_rfl) (hc : Region.closedB md ops listed = true := by kernel_rfl) (hla : Region.lastB md ops listed ds i = true := by kernel_rfl) (hl : l.take L.length = L := by rfl) (hT : Cells w0 T := by first | exact Cells.nil _ | assumption) : wpAnyLast P md ops (NoPanic Q) (Held L T) ds (fuel + 1) listed a w :=
  dY M i N _ (.inl ⟨hw, fun w' hw' => run_load_cell ho hx ((blk_cell (hw'.at k hk) j).trans hv) hna⟩) h hoi hN hs hf hr hc hla hl hT
/-- A known cell (an argument's element) is loaded. -/
theorem dE {ty : TypeId} (M : Aside0 (Mem e w0 w l rows)) (i : Nat) (N : Tmp) (k : Nat) {ad : Addr} {u : Value} {p : Tmp}
    (h : wpAnyLast P md ops (NoPanic Q) (Held L T) ds fuel (listed.setIfInBounds i true) (a.put (some N) u) w)
    (hoi : ops[i]? = some o := by rfl) (hN : o.dst = some N := by rfl) (ho : o.op = .load ty (.tmp p) := by rfl) (hw : Region.wanted o (yielded ops a.tmps) = true := by rfl)
    (hk : T[k]? = some (ad, u) := by rfl) (hx : a.eval (.tmp p) = .pointer (some ad) := by rfl) (hna : ∀ w, (isAgg ty).run P w = .ok false w := by intro _; kernel_rfl)
    (hs : Region.noSelect ops = true := by kernel_rfl) (hf : Region.free md ops listed i = true := by kernel_rfl) (hr : (Region.ready md ops listed).contains i = true := by kernel_rfl) (hc : Region.closedB md ops listed = true := by kernel_rfl) (hla : Region.lastB md ops listed ds i = true := by kernel_rfl) (hl : l.take L.length = L := by rfl) (hT : Cells w0 T := by first | exact Cells.nil _ | assumption) : wpAnyLast P md ops (NoPanic Q) (Held L T) ds (fuel + 1) listed a w :=
  dY M i N _ (.inl ⟨hw, fun w' hw' => run_load_cell ho hx (hw'.2 _ (List.mem_of_getElem? hk)) hna⟩) h hoi hN hs hf hr hc hla hl hT
/-- Some cells of a box are loaded (a struct within). -/
theorem dM {ty : TypeId} {d : TypeDesc} (M : Aside0 (Mem e w0 w l rows)) (i : Nat) (N : Tmp) (k off : Nat) (us : List Value) (hu : P.underlying ty = some d) {p : Tmp} {g : Nat} {cs : Array Value} {tb : TypeId}
    (h : wpAnyLast P md ops (NoPanic Q) (Held L T) ds fuel (listed.setIfInBounds i true) (a.put (some N) (.agg us.toArray)) w)
    (hoi : ops[i]? = some o := by rfl) (hN : o.dst = some N := by rfl) (ho : o.op = .load ty (.tmp p) := by rfl) (hw : Region.wanted o (yielded ops a.tmps) = true := by rfl)
    (hk : L[k]? = some (g, cs, tb) := by rfl) (hv : (cs.toList.drop off).take us.length = us := by rfl) (hx : a.eval (.tmp p) = .pointer (some ⟨g, off, none⟩) := by rfl) (hd : d.isRow = true := by rfl) (hi : (P.info? ty).map (·.size) = some us.length := by kernel_rfl)
    (hs : Region.noSelect ops = true := by kernel_rfl) (hf : Region.free md ops listed i = true := by kernel_rfl) (hr : (Region.ready md ops listed).contains i = true := by kernel_rfl) (hc : Region.closedB md ops listed = true := by kernel_rfl) (hla : Region.lastB md ops listed ds i = true := by kernel_rfl) (hl : l.take L.length = L := by rfl) (hT : Cells w0 T := by first | exact Cells.nil _ | assumption) : wpAnyLast P md ops (NoPanic Q) (Held L T) ds (fuel + 1) listed a w :=
  dY M i N _ (yieldsIf_load_mid hw ty _ ho g off hx us d (fun w' hw' j u hu' => by
    rw [blk_cell (hw'.at k hk) (off + j)]
    rw [← hv, List.getElem?_take] at hu'
    split at hu'
    · rw [List.getElem?_drop] at hu'
      simpa using hu'
    · cases hu') hu hd hi) h hoi hN hs hf hr hc hla hl hT
/-- An operation that no world matters to. -/
theorem dP (i : Nat) (N : Tmp) (u : Value)
    (h : wpAnyLast P md ops (NoPanic Q) (Held L T) ds fuel (listed.setIfInBounds i true) (a.put (some N) u) w)
    (hoi : ops[i]? = some o := by rfl) (hN : o.dst = some N := by rfl) (hw : Region.wanted o (yielded ops a.tmps) = true := by rfl)
    (hy : ∀ w, (execOp a.eval o).run P w = .ok (.value u) w := by intro _; first | rfl | (go_simp; done) | (go_simp; rfl))
    (hs : Region.noSelect ops = true := by kernel_rfl) (hf : Region.free md ops listed i = true := by kernel_rfl) (hr : (Region.ready md ops listed).contains i = true := by kernel_rfl) : wpAnyLast P md ops (NoPanic Q) (Held L T) ds (fuel + 1) listed a w :=
  wpAnyLast_any hoi (Region.noSelect_spec hs) (fun _ _ _ h => h) fuel listed a w (Region.free_spec hoi hf) (by simpa using hr) (.inl ⟨hw, hy⟩) (by rw [hN]; exact h)
/-- One whose guard does not want it. -/
theorem dN (i : Nat) (N : Tmp)
    (h : wpAnyLast P md ops (NoPanic Q) (Held L T) ds fuel (listed.setIfInBounds i true) (a.put (some N) undef) w)
    (hoi : ops[i]? = some o := by rfl) (hN : o.dst = some N := by rfl) (hw : Region.wanted o (yielded ops a.tmps) = false := by rfl)
    (hs : Region.noSelect ops = true := by kernel_rfl) (hf : Region.free md ops listed i = true := by kernel_rfl) (hr : (Region.ready md ops listed).contains i = true := by kernel_rfl) : wpAnyLast P md ops (NoPanic Q) (Held L T) ds (fuel + 1) listed a w :=
  wpAnyLast_any hoi (Region.noSelect_spec hs) (fun _ _ _ h => h) fuel listed a w (Region.free_spec hoi hf) (by simpa using hr) (.inr ⟨hw, rfl⟩) (by rw [hN]; exact h)
/-- Those that may come up now. -/
theorem dR (rs : List Nat) (h : AllReadyL P md ops Q (Held L T) ds fuel listed a w rs) (hr : Region.ready md ops listed = rs := by kernel_rfl) (hne : rs ≠ [] := by simp) : wpAnyLast P md ops Q (Held L T) ds (fuel + 1) listed a w :=
  wpAnyLast_ready hr hne h
/-- A call of a Go function. -/
theorem qK (i : Nat) (N : Tmp) {f : FuncId} {fn : Func} (hfn : P.funcs[f]? = some fn) (args : Array Value) {az : Array Operand} {ts : Array TypeId} {rs : List Nat}
    (h : Calls P f args w fun e w' => ∃ u, e = .returned u ∧ Held L T w' ∧ wpAnyLast P md ops Q (Held L T) ds fuel (listed.setIfInBounds i true) (a.put (some N) u) w')
    (hrest : AllReadyL P md ops Q (Held L T) ds fuel listed a w rs)
    (hoi : ops[i]? = some o := by rfl) (hN : o.dst = some N := by rfl) (hw : Region.wanted o (yielded ops a.tmps) = true := by rfl) (hd : i ∉ ds := by decide)
    (hop : o.op = .call { callee := .value (.func f), args := az, argTypes := ts } := by rfl) (hname : (fn.name == "runtime.NumGoroutine") = false := by kernel_rfl) (hb : fn.body.isSome = true := by rfl)
    (hargs : az.map a.eval = args := by first | rfl | (simp only [List.map_toArray, List.map_cons, List.map_nil]; done) | (simp only [List.map_toArray, List.map_cons, List.map_nil]; rfl) | simp) : AllReadyL P md ops Q (Held L T) ds fuel listed a w (i :: rs) := by
  refine AllReadyL.cons hoi hd (fun K hK => ?_) hrest
  rw [if_pos hw]
  have hg := goes_ (K := K) (Q := Q) hfn hname hb args hw hN hop hargs (h.mono (by
    rintro e w' ⟨u, rfl, hS, hh⟩
    exact ⟨u, rfl, hK.out _ _ hS (fun _ => hh)⟩))
  rw [if_pos hw] at hg
  exact hg
/-- A variable of its own. -/
theorem qA (M : Aside0 (Mem e w0 w l rows)) (i : Nat) (N : Tmp) (t : TypeId) (cs : Array Value) {rs : List Nat}
    (h : ∀ g w', Aside0 (Mem e w0 w' (l ++ [(g, cs, t)]) rows) → wpAnyLast P md ops Q (Held L T) ds fuel (listed.setIfInBounds i true) (a.put (some N) (.pointer (some ⟨g, 0, none⟩))) w')
    (hrest : AllReadyL P md ops Q (Held L T) ds fuel listed a w rs)
    (hoi : ops[i]? = some o := by rfl) (hN : o.dst = some N := by rfl) (hw : Region.wanted o (yielded ops a.tmps) = true := by rfl) (hd : i ∉ ds := by decide) (he : t ∉ e := by decide)
    (hrun : (execOp a.eval o).run P w = .ok (.value (.pointer (some ⟨w.heap.size, 0, none⟩))) (w.alloc (.cells cs t (0, 0))) := by first | (go_simp; done) | (go_simp; rfl))
    (hl : ∀ g, (l ++ [(g, cs, t)]).take L.length = L := by intro _; rfl) (hT : Cells w0 T := by first | exact Cells.nil _ | assumption) : AllReadyL P md ops Q (Held L T) ds fuel listed a w (i :: rs) := by
  refine AllReadyL.cons hoi hd (fun K hK => ?_) hrest
  rw [if_pos hw]
  unfold Oper.wp
  rw [hrun]
  show K (a.put o.dst _) _
  rw [hN]
  have M1 := Aside0.mk (Mem.box (cs := cs) M.out rfl (blk_new w (.cells cs t (0, 0))) (below_alloc (Below.refl _ _) _) he)
  exact hK.out _ _ (M1.out.held hT (hl _)) (fun _ => h _ _ M1)
/-- A whole box is stored (one of ds). -/
theorem qS (M : Aside0 (Mem e w0 w l rows)) (i : Nat) (t : TypeId) (p : Tmp) (k : Nat) (new : Array Value) {g : Nat} {old : Array Value} {tb : TypeId} {x : Operand} {rs : List Nat}
    (h : ∀ w', Aside0 (Mem e w0 w' (l.set k (g, new, tb)) rows) → wpAnyLast P md ops Q (Held L T) ds fuel (listed.setIfInBounds i true) a w')
    (hrest : AllReadyL P md ops Q (Held L T) ds fuel listed a w rs)
    (hoi : ops[i]? = some o := by rfl) (hn : o.dst = none := by rfl) (hw : Region.wanted o (yielded ops a.tmps) = true := by rfl) (hd : i ∈ ds := by decide) (ho : o.op = .store t (.tmp p) x := by rfl)
    (hk : l[k]? = some (g, old, tb) := by rfl) (hx : a.eval (.tmp p) = .pointer (some ⟨g, 0, none⟩) := by rfl) (hv : a.eval x = .agg new := by rfl)
    (hs : (P.info? t).map (·.size) = some new.size := by kernel_rfl) (hso : old.size = new.size := by rfl) (h1 : new.all (·.oneCell') = true := by kernel_rfl) : AllReadyL P md ops Q (Held L T) ds fuel listed a w (i :: rs) := by
  refine AllReadyL.cons_last hoi hd (fun K hK => ?_) hrest
  rw [if_pos hw]
  refine wp_store_row t (.tmp p) x ho g new hx hv tb old (M.out.at k hk) hs hso h1 ?_
  rw [hn]
  have M1 := Aside0.mk (Mem.keep M.out k hk (setRow_heap _ _ _ _ _ _ (M.out.at k hk)) (keepBut_setRow w g new) (below_setRow' M.out.below (M.out.ge k hk) new))
  exact hK.out _ _ (h _ M1)
theorem dDone (h : Q .normal a w) (hr : Region.ready md ops listed = [] := by kernel_rfl) : wpAnyLast P md ops (NoPanic Q) (Held L T) ds fuel listed a w := wpAnyLast_done hr (NoPanic.normal h) _
/-- What follows a region, once. -/
theorem dJoin {id : Nat} {b : Bool} {σ : Type} (ns : σ → List (Tmp × Value)) (R : σ → World → Prop) (hcont : ∀ s w', R s w' → Q .normal (putAll a (ns s)) w')
    (h : (∀ s w', R s w' → Q .normal (putAll a (ns s)) w') → (Code.region id ops b).wp P Q a W) : (Code.region id ops b).wp P Q a W := h hcont
end
end Go.Proofs.YtonnlkpmfmknlaaDoor.Hctx
end

section
/-
  Events on rows of ints of a call's own: a literal made, an append, an element stored.
-/
set_option linter.unusedVariables false
set_option linter.unusedSimpArgs false
namespace Go.Proofs.YtonnlkpmfmknlaaDoor.Hctx
open Go.RowKit Go.Proofs.YtonnlkpmfmknlaaDoorW.PrintWords Go.Proofs.YtonnlkpmfmknlaaDoorW.PrintLast Go.Proofs.YtonnlkpmfmknlaaDoorW.PrintMore
section
variable {P : Program} {ops : Array Oper} {rest : List Oper} {o : Oper} {a : Act} {Q : Exit → Act → World → Prop} {es : List TypeId} {w0 W W1 : World} {l : List (Nat × Array Value × TypeId)} {rows : List Row}
/-- The rows in another order. -/
theorem Mem.rowsBy (M : Mem es w0 W l rows) (f g : Nat → Nat) {rows' : List Row} (hf : ∀ i, rows'[i]? = rows[f i]?) (hi : ∀ i j, (rows'[i]?).isSome = true → (rows'[j]?).isSome = true → f i = f j → i = j) (hg : ∀ j, (rows[j]?).isSome = true → f (g j) = j) : Mem es w0 W l rows' := by
  refine ⟨M.below, M.blk, M.apart, fun r hr => ?_, fun i r hr => ?_⟩
  · obtain ⟨i, hi'⟩ := List.mem_iff_getElem?.1 hr
    rw [hf i] at hi'
    exact M.typ r (List.mem_of_getElem? hi')
  · have hr' := hr
    rw [hf i] at hr'
    refine Kd.R_mono (M.owns (f i) r hr') (fun k hk j s hs hj => ?_)
    have hs' := hs
    rw [hf j] at hs'
    exact hk (f j) s hs' (fun he => hj (hi j i (by rw [hs]; rfl) (by rw [hr]; rfl) he))
theorem Mem.swap01 {r s : Row} (M : Mem es w0 W l (r :: s :: rows)) : Mem es w0 W l (s :: r :: rows) := by
  refine M.rowsBy (fun i => match i with | 0 => 1 | 1 => 0 | n + 2 => n + 2) (fun i => match i with | 0 => 1 | 1 => 0 | n + 2 => n + 2) (fun i => ?_) (fun i j _ _ h => ?_) (fun j _ => ?_)
  · match i with | 0 => rfl | 1 => rfl | n + 2 => rfl
  · match i, j, h with
    | 0, 0, _ => rfl
    | 1, 1, _ => rfl
    | n + 2, m + 2, h => exact h
    | 0, 1, h => simp at h
    | 1, 0, h => simp at h
    | 0, n + 2, h => simp at h
    | 1, n + 2, h => simp at h
    | n + 2, 0, h => simp at h
    | n + 2, 1, h => simp at h
  · match j with | 0 => rfl | 1 => rfl | n + 2 => rfl
theorem Mem.front2 {r s t : Row} (M : Mem es w0 W l (r :: s :: t :: rows)) : Mem es w0 W l (t :: r :: s :: rows) := by
  refine M.rowsBy (fun i => match i with | 0 => 2 | 1 => 0 | 2 => 1 | n + 3 => n + 3) (fun i => match i with | 0 => 1 | 1 => 2 | 2 => 0 | n + 3 => n + 3) (fun i => ?_) (fun i j _ _ h => ?_) (fun j _ => ?_)
  · match i with | 0 => rfl | 1 => rfl | 2 => rfl | n + 3 => rfl
  · match i, j, h with
    | 0, 0, _ => rfl
    | 1, 1, _ => rfl
    | 2, 2, _ => rfl
    | n + 3, m + 3, h => exact h
    | 0, 1, h => simp at h
    | 0, 2, h => simp at h
    | 1, 0, h => simp at h
    | 1, 2, h => simp at h
    | 2, 0, h => simp at h
    | 2, 1, h => simp at h
    | 0, n + 3, h => simp at h
    | 1, n + 3, h => simp at h
    | 2, n + 3, h => simp at h
    | n + 3, 0, h => simp at h
    | n + 3, 1, h => simp at h
    | n + 3, 2, h => simp at h
  · match j with | 0 => rfl | 1 => rfl | 2 => rfl | n + 3 => rfl
theorem reps_ints {ik : IntKind} {W : World} {base : Nat} {ok : Nat → Prop} (xs : List Int) : Reps ((Kd.int ik).M W base ok) (Kd.int ik).sz xs (xs.map (Value.int ik)) := Kd.reps_scalar xs
/-- A literal of ints. -/
theorem eLit (ik : IntKind) (M : Aside0 (Mem es w0 W l rows)) (N : Tmp) (e : TypeId) (xs : List Int)
    (h : ∀ A c w1, Aside0 (Mem es w0 w1 l (⟨Kd.int ik, e, .slice A xs.length c, xs⟩ :: rows)) → wpList P ops Q rest (a.put o.dst (.slice A xs.length c)) w1)
    (hd : o.dst = some N := by with_reducible rfl) (hgd : o.guard = none := by with_reducible rfl) (he : e ∈ es := by decide) (hm : xs.length ≤ 9223372036854775807 := by decide)
    (hr : (execOp a.eval o).run P W = .ok (.value (.slice (some ⟨W.heap.size, 0, none⟩) xs.length xs.length)) (W.alloc (.cells (xs.map (Value.int ik)).toArray e)) := by first | (go_simp; done) | (go_simp; rfl)) :
    wpList P ops Q (o :: rest) a W := by
  refine Kd.R_lit (Kd.int ik) (w0 := W) W.heap.size e hgd hd (ok := fun _ => True) (okp := fun _ => True) hr (reps_ints xs) (fun _ h => h) trivial (Below.refl _ _) (Nat.le_refl _) hm (fun v1 w1 hR hB hg _ => ?_)
  obtain ⟨A, c, rfl⟩ := Kd.R_slice hR
  exact h A c w1 ⟨M.out.row hB hR (fun q hq => by
    rcases List.mem_cons.1 hq with rfl | hq
    · exact he
    · cases hq)⟩
/-- 'append(s, x...)' on the first row. -/
theorem eApp {ik : IntKind} {bytes : Nat} {e : TypeId} {B : Option Addr} {n cB : Nat} {xs : List Int} (M : Aside0 (Mem es w0 W l (⟨Kd.int ik, e, .slice B n cB, xs⟩ :: rows))) (N : Tmp) {A : Option Addr} {m c : Nat} {ys : List Int} (HR : (Kd.int ik).C W A m ys) (hl : (xs.length + m) * bytes ≤ 140737488355328)
    (zs : List Int) (hz : xs ++ ys = zs) (h : ∀ B' c' w1, Aside0 (Mem es w0 w1 l (⟨Kd.int ik, e, .slice B' zs.length c', zs⟩ :: rows)) → wpList P ops Q rest (a.put o.dst (.slice B' zs.length c')) w1)
    {s x : Operand} {t : TypeId} (ho : o.op = .call { callee := .builtin .append, args := #[s, x], argTypes := #[t, t] } := by with_reducible rfl) (hd : o.dst = some N := by with_reducible rfl) (hgd : o.guard = none := by with_reducible rfl)
    (ht : P.underlying t = some (.slice e) := by kernel_rfl) (hinfo : (P.info? e).map (fun i => (i.zero, i.size, i.bytes)) = some (some (.int ik 0), 1, bytes) := by kernel_rfl)
    (hb0 : 0 < bytes := by decide) (hs : a.eval s = .slice B n cB := by rfl) (hx : a.eval x = .slice A m c := by rfl) : wpList P ops Q (o :: rest) a W := by
  have M0 := M.out
  subst hz
  refine Kd.R_append_row (Value.int ik) (0 : Int) (h1 := fun _ => rfl) (w0 := w0) w0.heap.size hgd s x t e (.int ik 0) bytes ho ht hinfo rfl hb0 (.slice B n cB) xs ys A m c (okOf (⟨Kd.int ik, e, .slice B n cB, xs⟩ :: rows) 0) hs hx
    (fun k hk => M0.okFresh 0 k hk) (M0.owns 0 _ rfl) HR M0.below M0.below.size hl (fun v1 w1 hR hB hg hat => ?_)
  obtain ⟨B', c', rfl⟩ := Kd.R_slice hR
  exact h B' c' w1 ⟨M0.written hB hg hR hat⟩
/-- The first row's address. -/
theorem Mem.addr {ik : IntKind} {e : TypeId} {B : Option Addr} {n c : Nat} {xs : List Int} (M : Mem es w0 W l (⟨Kd.int ik, e, .slice B n c, xs⟩ :: rows)) (h : 0 < xs.length) : ∃ g, B = some ⟨g, 0, Option.none⟩ := by
  obtain ⟨inner, ho⟩ := Kd.R_own M.own
  rcases ho.2 with ⟨he, h0⟩ | ⟨g, cap, cur, he, _⟩
  · omega
  · injection he with h1 _ _
    exact ⟨g, h1⟩
/-- An element of the first row is stored. -/
theorem eP {ik : IntKind} {e : TypeId} {g n c : Nat} {xs : List Int} (M : Aside0 (Mem es w0 W l (⟨Kd.int ik, e, .slice (some ⟨g, 0, none⟩) n c, xs⟩ :: rows))) (t : TypeId) (p : Tmp) (i : Nat) (u : Int) (hi : i < n)
    (h : ∀ w', Aside0 (Mem es w0 w' l (⟨Kd.int ik, e, .slice (some ⟨g, 0, none⟩) n c, xs.set i u⟩ :: rows)) → wpList P ops Q rest a w')
    {x : Operand} (ho : o.op = .store t (.tmp p) x := by with_reducible rfl) (hn : o.dst = none := by with_reducible rfl) (hgd : o.guard = none := by with_reducible rfl)
    (hx : a.eval (.tmp p) = .pointer (some ⟨g, i, none⟩) := by first | rfl | (go_simp; done) | (go_simp; rfl)) (hv : a.eval x = .int ik u := by first | rfl | (go_simp; done) | (go_simp; rfl)) (hs : (P.info? t).map (·.size) = some 1 := by kernel_rfl) :
    wpList P ops Q (o :: rest) a W := by
  have M0 := M.out
  have hR := M0.owns 0 _ rfl
  have hcell := Kd.R_celln (0 : Int) (enc := Value.int ik) (h1 := fun _ => rfl) hR (i : Int) (by omega) (by exact_mod_cast hi)
  rw [Int.toNat_natCast] at hcell
  have hput := Kd.R_putg (enc := Value.int ik) (h1 := fun _ => rfl) hR (i : Int) u
  rw [Int.toNat_natCast] at hput
  refine store_event (w1 := W.setCell ⟨g, i, none⟩ (.int ik u)) hgd ho hn ?_ (fun w' hw => ?_)
  · have hst : (store (⟨g, i, none⟩ : Addr) (.int ik u)).run P W = .ok () (W.setCell ⟨g, i, none⟩ (.int ik u)) := by
      rw [run_store P W _ _ _ rfl, hcell.1]
      simp [hcell.2]
    have hsv : (storeVar t ⟨g, i, none⟩ (.int ik u)).run P W = .ok () (W.setCell ⟨g, i, none⟩ (.int ik u)) := by
      cases hq : P.info? t with
      | none => simp [hq] at hs
      | some z =>
        have hz : z.size = 1 := by simpa [hq] using hs
        have ha : (⟨g, i, none⟩ : Addr).add 0 = ⟨g, i, none⟩ := by unfold Addr.add; simp
        have hs' : (store ((⟨g, i, none⟩ : Addr).add 0) (.int ik u)).run P W = .ok () (W.setCell ⟨g, i, none⟩ (.int ik u)) := by rw [ha]; exact hst
        simp [storeVar, sizeOf, typeInfo, hq, Value.cells, hz, storeCells, hs']
    unfold execOp
    simp only [ho, hx, hv, Instr.storeAt, Instr.sureAddr, Sem.run_bind, Sem.run_pure, Result.andThen_ok, hsv]
  · subst hw
    refine h _ ⟨M0.written ?_ hput.2 hput.1 (.inl rfl)⟩
    exact below_set M0.below (Kd.R_base M0.own g rfl)
/-- What a row begins with. -/
theorem C_prefix {ik : IntKind} {e base : Nat} {ok : Nat → Prop} {B : Option Addr} {n cB : Nat} {xs ys : List Int} (h : Kd.R (Kd.int ik) e W base ok (.slice B n cB) (xs ++ ys)) : Kd.C (Kd.int ik) W B xs.length xs ∧ xs.length ≤ cB := by
  have h1 := Kd.R_take h (m := xs.length) (by simp)
  rw [List.take_left] at h1
  have h2 := Kd.R_reads' h1
  exact ⟨h2.2.2, h2.2.1⟩
end
end Go.Proofs.YtonnlkpmfmknlaaDoor.Hctx
end

section
/-
  script.number, walked.
-/
set_option linter.unusedVariables false
set_option linter.unusedSimpArgs false
namespace Go.Proofs.YtonnlkpmfmknlaaDoor.Hof
open Go.RowKit Go.Shelf Go.Proofs.YtonnlkpmfmknlaaDoorW.PrintWords Go.Proofs.YtonnlkpmfmknlaaDoorW.PrintLast Go.Proofs.YtonnlkpmfmknlaaDoorW.PrintMore Hctx
/-- Bytes as a string. -/
@[reducible] def sB (l : List UInt8) : ByteArray := ⟨l.toArray⟩
theorem sB_to (s : ByteArray) : sB s.data.toList = s := by apply ByteArray.ext; simp [sB]
theorem trim_calls (l : List UInt8) (hl : l.length ≤ 262144) (w : World) :
    Calls Tryd.prog 71 #[.string (sB l), .string ⟨#[48, 49, 50, 51, 52, 53, 54, 55, 56, 57]⟩] w fun e w' => e = .returned (.string (sB (Lib.trimS l Q.digs))) ∧ Below w.heap.size w w' := by
  have h := Tryd.strings_Trim_set (sB l) ⟨#[48, 49, 50, 51, 52, 53, 54, 55, 56, 57]⟩ w (by show (l.toArray).size ≤ _; simp; omega) (by decide) (Go.Proofs.ascii_of_all (l := [48, 49, 50, 51, 52, 53, 54, 55, 56, 57]) (by decide))
  exact h
theorem trimP_len (l : List UInt8) : (Lib.trimPrefix l [45]).length ≤ l.length := by
  unfold Lib.trimPrefix
  split
  · rw [List.length_drop]; omega
  · exact Nat.le_refl _

set_option maxHeartbeats 4000000 in
set_option maxRecDepth 100000 in
theorem number_calls (s : ByteArray) (hs : s.size ≤ 262144) (w : World) :
    Calls Tryd.prog 54 #[.string s] w fun e w' => e = .returned (.bool (Q.numB s.data.toList)) ∧ Below w.heap.size w w' := by
  have HN : RowKit.Hid (Q.numB s.data.toList = (!(Lib.trimPrefix s.data.toList [45]).isEmpty && (Lib.trimPrefix s.data.toList [45]).all Q.dig && ((Lib.trimPrefix s.data.toList [45]).head? != some 48 || s.data.toList == [48]))) := Lib.hid rfl
  have HP := Lib.hid (fun W => Tryd.strings_TrimPrefix s ⟨#[45]⟩ W)
  have hlen := trimP_len s.data.toList
  have hz : s.data.toList.length = s.size := Array.length_toList
  have HT := Lib.hid (fun W => trim_calls (Lib.trimPrefix s.data.toList [45]) (by omega) W)
  clear hlen hz
  revert HN HP HT
  show RowKit.Hid _ → RowKit.Hid (∀ W, Calls Tryd.prog 70 #[.string s, .string ⟨#[45]⟩] W fun e w' => e = .returned (.string (sB (Lib.trimPrefix s.data.toList [45]))) ∧ w' = W) → _
  generalize Lib.trimPrefix s.data.toList [45] = d
  intro HN HP HT
  go_enter Tryd.func54, Tryd.ntmps54
  go_wp2_with fail
  refine (HP.out _).mono ?_
  rintro e w1 ⟨rfl, rfl⟩
  cases d with
  | nil =>
    go_wp2
    go_ret
    exact ⟨by rw [HN.out]; rfl, Below.refl _ _⟩
  | cons c r =>
    have HA := Lib.hid (Q.trim_nil (c :: r))
    revert HA HT
    generalize Lib.trimS (c :: r) Q.digs = x
    intro HT HA
    go_wp2_with fail
    refine (HT.out _).mono ?_
    rintro e w2 ⟨rfl, hb⟩
    have HB := Aside0.mk hb
    clear hb
    cases x with
    | cons a b =>
      have hall : (c :: r).all Q.dig = false := by
        cases hq : (c :: r).all Q.dig
        · rfl
        · exact absurd (HA.out.2 hq) (by simp)
      have HV := Lib.hid (show Q.numB s.data.toList = false by rw [HN.out, hall]; simp)
      clear hall
      go_wp2
      go_ret
      exact ⟨by (rw [HV.out]; try rfl), HB.out⟩
    | nil =>
      have HV := Lib.hid (show Q.numB s.data.toList = (((c :: r).head? != some 48) || s.data.toList == [48]) by rw [HN.out, HA.out.1 rfl]; simp)
      by_cases h48 : c = 48
      · subst h48
        by_cases hs0 : s.data.toList = [48]
        · have e1 : (s.toList == [48]) = true := by rw [ByteArray.toList_eq, hs0]; rfl
          have e2 : s.toList = [48] := by rw [ByteArray.toList_eq]; exact hs0
          have HV2 := Lib.hid (show Q.numB s.data.toList = true by rw [HV.out, hs0]; rfl)
          clear hs0
          go_wp2
          go_ret
          exact ⟨by (rw [HV2.out]; try rfl), HB.out⟩
        · have e1 : (s.toList == [48]) = false := by rw [ByteArray.toList_eq]; exact beq_eq_false_iff_ne.mpr hs0
          have e2 : (s.toList = [48]) = False := eq_false (by rw [ByteArray.toList_eq]; exact hs0)
          have HV2 := Lib.hid (show Q.numB s.data.toList = false by rw [HV.out, beq_eq_false_iff_ne.mpr hs0]; rfl)
          clear hs0
          go_wp2
          go_ret
          exact ⟨by (rw [HV2.out]; try rfl), HB.out⟩
      · have e1 : ((c.toNat : Int) != 48) = true := bne_iff_ne.mpr (fun e => h48 (UInt8.toNat_inj.1 (by have e3 : (48 : UInt8).toNat = 48 := rfl; omega)))
        have e2 : ((c.toNat : Int) == 48) = false := beq_eq_false_iff_ne.mpr (fun e => h48 (UInt8.toNat_inj.1 (by have e3 : (48 : UInt8).toNat = 48 := rfl; omega)))
        have hz0 : 0 < (sB (c :: r)).size := by show 0 < ((c :: r).toArray).size; simp
        have e3 : ((((sB (c :: r))[0]'hz0).toNat : Int) != 48) = true := e1
        have HV2 := Lib.hid (show Q.numB s.data.toList = true by rw [HV.out]; simp [h48])
        clear h48
        go_wp2
        go_ret
        exact ⟨by (rw [HV2.out]; try rfl), HB.out⟩
end Go.Proofs.YtonnlkpmfmknlaaDoor.Hof
end
