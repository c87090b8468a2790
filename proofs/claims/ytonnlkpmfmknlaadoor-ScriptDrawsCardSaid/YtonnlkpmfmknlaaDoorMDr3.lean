import Derived.Test.YtonnlkpmfmknlaaDoorMDr2
import Derived.Maps.Own
import Derived.Maps.OwnSet
import Derived.Maps.Views
import Derived.Lib.Hide
import Derived.Lib.SmallJoins
import Derived.Test.YtonnlkpmfmknlaaDoorProg
import Derived.Below
import Derived.Deep.Draws
import Derived.Deep.AppendLies
import Derived.Maps.AppendAt
import Derived.OwnWalk
import Derived.Laws.BytesArg
import Derived.Laws.MakeOwn
import Derived.Laws.OwnMore
import Derived.Deep.OwnRows
import Derived.Tactics
import Derived.Lib.ConvBytes
import Derived.Laws.Slices
import Derived.WalkKit
import Derived.KernelRfl
import Derived.RowKit3
import Derived.Deep.LoopGhost
import Derived.Deep.QuietTactic
import Derived.BigQuiet
import Derived.WideLaws
import Derived.Deep.DeepCutAuto
import Derived.Deep.CutBlock
import Derived.Deep.RegionHeld3
import Derived.Laws.Rows
import Derived.Lib.AppendStr
import Derived.ArgAppend
import Derived.Laws.IdiomCopy
import Derived.OrdersHeld
import Derived.Laws.BitsLemmas
import Derived.RowKit
import Derived.Test.YtonnlkpmfmknlaaDoorWWords
import Derived.Test.YtonnlkpmfmknlaaDoorWLast
import Derived.Test.YtonnlkpmfmknlaaDoorWTab
import Derived.Test.YtonnlkpmfmknlaaDoorWFour
import Derived.Test.YtonnlkpmfmknlaaDoorWQPut
import Derived.Test.YtonnlkpmfmknlaaDoorWApart
import Derived.Test.YtonnlkpmfmknlaaDoorWArr
import Derived.Test.YtonnlkpmfmknlaaDoorWZeros
import Derived.Test.YtonnlkpmfmknlaaDoorWFoot
import Derived.Test.YtonnlkpmfmknlaaDoorWKept
import Derived.Test.YtonnlkpmfmknlaaDoorWShare
import Derived.Test.YtonnlkpmfmknlaaDoorWN
import Derived.Test.YtonnlkpmfmknlaaDoorWFootNe
import Derived.Test.YtonnlkpmfmknlaaDoorWAt
import Derived.Test.YtonnlkpmfmknlaaDoorWEqStruct
import Derived.Test.YtonnlkpmfmknlaaDoorWRepsOne
import Derived.Test.YtonnlkpmfmknlaaDoorWInv
import Derived.Test.YtonnlkpmfmknlaaDoorWInvWords
import Derived.Test.YtonnlkpmfmknlaaDoorWGuard
import Derived.Test.YtonnlkpmfmknlaaDoorWNEv
import Derived.Test.YtonnlkpmfmknlaaDoorWMore
import Derived.Lib.ItoaMem
import Derived.Lib.ItoaLen
import Derived.Lib.AtoiAll
import Derived.Lib.ParseIntB
import Derived.Lib.SplitLaws
import Derived.Test.YtonnlkpmfmknlaaDoorMDr0
section
/-
  A call's own memory with a set of strings (a map to bools) beside it: the record and its events.
-/
set_option linter.unusedVariables false
set_option linter.unusedSimpArgs false
namespace Go.Proofs.YtonnlkpmfmknlaaDoor.Hctx
open Go.RowKit Go.Proofs.YtonnlkpmfmknlaaDoorW.PrintWords Go.Proofs.YtonnlkpmfmknlaaDoorW.PrintLast Go.Proofs.YtonnlkpmfmknlaaDoorW.PrintMore
/-- Block g is a set of at most n strings: those of which had says yes. -/
def HadM (P : Program) (W : World) (g n : Nat) (had : List UInt8 → Bool) : Prop :=
  ∃ D : DataW Unit, W.ownsMap P 9 (plainElem P 4) g n D ∧ ∀ key : List UInt8, D.atKey (.string key) (.lit (.bool false)) = .lit (.bool (had key))
theorem own_heap {P : Program} {W W1 : World} {g n : Nat} {had : List UInt8 → Bool} (h : HadM P W g n had) (he : W1.heap[g]? = W.heap[g]?) : HadM P W1 g n had := by
  obtain ⟨D, ⟨es, ck, h1, h2, h3, h4⟩, h5⟩ := h
  exact ⟨D, ⟨es, ck, he.trans h1, h2, h3, h4⟩, h5⟩
theorem HadM.blk {P : Program} {W : World} {g n : Nat} {had : List UInt8 → Bool} (h : HadM P W g n had) : ∃ es ck, W.heap[g]? = some (.map es ck) := by
  obtain ⟨D, ⟨es, ck, h1, _⟩, _⟩ := h
  exact ⟨es, ck, h1⟩
theorem HadM.lt {P : Program} {W : World} {g n : Nat} {had : List UInt8 → Bool} (h : HadM P W g n had) : g < W.heap.size := by
  obtain ⟨es, ck, h1⟩ := h.blk
  rcases Nat.lt_or_ge g W.heap.size with h2 | h2
  · exact h2
  · rw [Array.getElem?_eq_none h2] at h1; cases h1
/-- The memory of a call's own, and a set. -/
structure MemO (P : Program) (es : List TypeId) (w0 W : World) (l : List (Nat × Array Value × TypeId)) (rows : List Row) (g n : Nat) (had : List UInt8 → Bool) : Prop where
  mem : Mem es w0 W l rows
  set : HadM P W g n had
  ge : w0.heap.size ≤ g
section
variable {P : Program} {es : List TypeId} {w0 W W1 : World} {l : List (Nat × Array Value × TypeId)} {rows : List Row} {g n : Nat} {had : List UInt8 → Bool}
theorem MemO.call (M : MemO P es w0 W l rows g n had) (hb : Below W.heap.size W W1) : MemO P es w0 W1 l rows g n had :=
  ⟨M.mem.call hb, own_heap M.set (hb.block g M.set.lt), M.ge⟩
theorem MemO.drewN (M : MemO P es w0 W l rows g n had) (k : Nat) : MemO P es w0 (W.drewN k) l rows g n had := M.call (pw_below_drewN (Below.refl _ _) k)
theorem MemO.forget (M : MemO P es w0 W l rows g n had) (k : Nat) : MemO P es w0 W (l.take k) rows g n had := ⟨M.mem.forget k, M.set, M.ge⟩
theorem MemO.ne_box (M : MemO P es w0 W l rows g n had) (i : Nat) {b : Nat} {cs : Array Value} {t : TypeId} (h : l[i]? = some (b, cs, t)) : g ≠ b := by
  rintro rfl
  obtain ⟨e, c, h1⟩ := M.set.blk
  rw [M.mem.at i h] at h1
  cases h1
theorem MemO.ne_row (M : MemO P es w0 W l rows g n had) (i : Nat) {r : Row} (h : rows[i]? = some r) : some g ≠ r.v.ownBlock := by
  intro he
  obtain ⟨cells, hc⟩ := Kd.R_typed (M.mem.owns i _ h) g he.symm
  obtain ⟨e, c, h1⟩ := M.set.blk
  rw [hc] at h1
  cases h1
/-- What was written is no map's block. -/
theorem MemO.other (M : MemO P es w0 W l rows g n had) {l' : List (Nat × Array Value × TypeId)} {rows' : List Row} (M1 : Mem es w0 W1 l' rows') (he : W1.heap[g]? = W.heap[g]?) : MemO P es w0 W1 l' rows' g n had := ⟨M1, own_heap M.set he, M.ge⟩
theorem MemO.rowsBy {rows' : List Row} (M : MemO P es w0 W l rows g n had) (h : Mem es w0 W l rows → Mem es w0 W l rows') : MemO P es w0 W l rows' g n had := ⟨h M.mem, M.set, M.ge⟩
/-- The set is asked. -/
theorem MemO.look (M : MemO P es w0 W l rows g n had) (hu4 : P.underlying 4 = some .bool) (hu9 : P.underlying 9 = some .string) {t : TypeId} (ht : P.underlying t = some (.map 9 4)) (s : ByteArray) (hs : s.size ≤ maxLen) (hz : (zeroValue 4).run P W = .ok (.bool false) W) :
    (Instr.lookup t (.map (some g)) (.string s) false).run P W = .ok (.bool (had s.data.toList)) W := by
  obtain ⟨D, hown, hat⟩ := M.set
  obtain ⟨v, ps, hrun, hv⟩ := hown.lookup (Maps.string_keyed hu9) ht hz (plainElem_bool hu4 false) (WideMaps.keyOf_string_mk hu9 hs)
  rw [hat] at hv
  rw [hrun]
  unfold plainElem at hv
  rw [hu4] at hv
  cases v with
  | bool b =>
    simp at hv
    rw [hv.1]
  | _ => simp at hv
/-- Another block than a set's was written: nothing of the call's own memory. -/
theorem Mem.beside (M : Mem es w0 W l rows) {b : Nat} (hg : W.grownBy W1 (some b)) (hb : w0.heap.size ≤ b) (hn : ∀ cs t f, W.heap[b]? ≠ some (.cells cs t f)) : Mem es w0 W1 l rows := by
  refine ⟨M.below.grown hg M.below.size (fun k hk => by injection hk with hk; omega), fun x hx => ?_, M.apart, M.typ, fun i r hr => ?_⟩
  · have hx' := M.blk x hx
    refine ⟨blk_grown hx'.1 hg (fun he => ?_), hx'.2⟩
    injection he with he
    rw [he] at hx'
    exact hn _ _ _ hx'.1
  · refine Kd.R_mono (Kd.R_grown (Kd.R_bound (M.owns i r hr)) hg (fun k hk he => ?_)) (fun k hk => hk.1)
    obtain ⟨_, _, _, q, hq, cells, hc⟩ := hk
    injection he with he
    rw [he] at hc
    exact hn _ _ _ hc
/-- One more in the set. -/
theorem MemO.put (M : MemO P es w0 W l rows g n had) (hu4 : P.underlying 4 = some .bool) (hu9 : P.underlying 9 = some .string) {t : TypeId} (ht : P.underlying t = some (.map 9 4)) (s : ByteArray) (hs : s.size ≤ maxLen) (hn : n < maxLen) :
    ∃ W1, (Instr.mapUpdate t (.map (some g)) (.string s) (.bool true)).run P W = .ok () W1 ∧ MemO P es w0 W1 l rows g (n + 1) (fun k => k == s.data.toList || had k) := by
  obtain ⟨D, hown, hat⟩ := M.set
  obtain ⟨W1, hrun, hown1, hg⟩ := hown.update (Maps.string_keyed hu9) ht hn (WideMaps.keyOf_string_mk hu9 hs) (plainElem_bool hu4 true)
  have hmap : Maps.IsMap D := by
    obtain ⟨es, ck, _, _, _, rfl⟩ := hown
    exact ⟨_, rfl⟩
  obtain ⟨e1, c1, hblk⟩ := (M.set).blk
  refine ⟨W1, hrun, M.mem.beside hg M.ge (fun cs t f h => by rw [hblk] at h; cases h), ⟨_, hown1, fun key => ?_⟩, M.ge⟩
  by_cases hk : key = s.data.toList
  · subst hk
    rw [Maps.atKey_put_same hmap ((Maps.string_keyed hu9).key (WideMaps.keyOf_string_mk hu9 hs))]
    simp
  · rw [Maps.atKey_put_other (by simpa using hk), hat]
    simp [hk]
end
section
variable {P : Program} {ops : Array Oper} {rest : List Oper} {o : Oper} {a : Act} {Q : Exit → Act → World → Prop} {es : List TypeId} {w0 W : World} {l : List (Nat × Array Value × TypeId)} {rows : List Row} {g n : Nat} {had : List UInt8 → Bool}
/-- A cell of a box is stored. -/
theorem oS (M : Aside0 (MemO P es w0 W l rows g n had)) (t : TypeId) (p : Tmp) (i j : Nat) (u : Value) (new : Array Value) {b : Nat} {cs : Array Value} {tb : TypeId} {x : Operand}
    (h : ∀ w', Aside0 (MemO P es w0 w' (l.set i (b, new, tb)) rows g n had) → wpList P ops Q rest a w')
    (hi : l[i]? = some (b, cs, tb)) (hj : cs[j]?.isSome = true) (h1 : u.oneCell' = true) (hnew : cs.setIfInBounds j u = new)
    (ho : o.op = .store t (.tmp p) x := by with_reducible rfl) (hn : o.dst = none := by with_reducible rfl) (hgd : o.guard = none := by with_reducible rfl)
    (hx : a.eval (.tmp p) = .pointer (some ⟨b, j, none⟩) := by first | rfl | (go_simp; done) | (go_simp; rfl)) (hv : a.eval x = u := by first | rfl | (go_simp; done) | (go_simp; rfl))
    (hs : (P.info? t).map (·.size) = some 1 := by kernel_rfl) :
    wpList P ops Q (o :: rest) a W :=
  cell_event hgd ho hn b j cs u hx hv (M.out.mem.at i hi) hj hs h1 fun w' hn' hk hb => h w' ⟨M.out.other (Mem.keep M.out.mem i hi (hnew ▸ hn') hk (hb w0 M.out.mem.below (M.out.mem.ge i hi))) (hk.2 g M.out.set.lt (M.out.ne_box i hi) (by simp))⟩
/-- 'append(s, x)' of one scalar on the first row, its slice just made. -/
theorem oA {ik : IntKind} {e : TypeId} {v : Value} {xs : List Int} (M : Aside0 (MemO P es w0 W l (⟨Kd.int ik, e, v, xs⟩ :: rows) g n had)) (N : Tmp) (p : Int) (bytes : Nat) (hl : (xs.length + 1) * bytes ≤ 140737488355328)
    (h : ∀ v' w1, Aside0 (MemO P es w0 w1 l (⟨Kd.int ik, e, v', xs ++ [p]⟩ :: rows) g n had) → wpList P ops Q rest (a.put o.dst v') w1)
    {s x : Operand} {t : TypeId} (ho : o.op = .call { callee := .builtin .append, args := #[s, x], argTypes := #[t, t] } := by with_reducible rfl) (hd : o.dst = some N := by with_reducible rfl) (hgd : o.guard = none := by with_reducible rfl)
    (ht : P.underlying t = some (.slice e) := by kernel_rfl) (hinfo : (P.info? e).map (fun i => (i.zero, i.size, i.bytes)) = some (some (.int ik 0), 1, bytes) := by kernel_rfl)
    (hb0 : 0 < bytes := by decide) (hs : a.eval s = v := by rfl) (hx : a.eval x = .slice (some ⟨W.heap.size, 0, none⟩) 1 1 := by rfl) : wpList P ops Q (o :: rest) a (W.alloc (.cells #[.int ik p] e)) := by
  have M0 := M.out.mem
  refine Kd.R_append (Kd.int ik) (w0 := w0) w0.heap.size hgd s x t e (.int ik 0) bytes ho ht hinfo rfl (by show 0 < 1; decide) hb0 v xs p [.int ik p] (okOf (⟨Kd.int ik, e, v, xs⟩ :: rows) 0) (fun _ => False) hs hx rfl (fun _ hk => hk.elim)
    (fun k hk => M0.okFresh 0 k hk) (M0.owns 0 _ rfl) M0.below M0.below.size hl (fun v1 w1 hR hB hg hat => ?_)
  exact h v1 w1 ⟨M.out.other (M0.written hB hg hR hat) (hg.block g M.out.set.lt (M.out.ne_row 0 rfl))⟩
/-- A string is put into the set. -/
theorem oM (M : Aside0 (MemO P es w0 W l rows g n had)) (hu4 : P.underlying 4 = some .bool) (hu9 : P.underlying 9 = some .string) {t : TypeId} (ht : P.underlying t = some (.map 9 4)) (s : ByteArray) (hs : s.size ≤ maxLen) (hn : n < maxLen)
    (h : ∀ w', Aside0 (MemO P es w0 w' l rows g (n + 1) (fun k => k == s.data.toList || had k)) → wpList P ops Q rest (a.put o.dst undef) w')
    {m x v : Operand} (ho : o.op = .mapUpdate t m x v := by with_reducible rfl) (hgd : o.guard = none := by with_reducible rfl)
    (hm : a.eval m = .map (some g) := by first | rfl | (go_simp; done) | (go_simp; rfl)) (hx : a.eval x = .string s := by first | rfl | (go_simp; done) | (go_simp; rfl)) (hv : a.eval v = .bool true := by first | rfl | (go_simp; done) | (go_simp; rfl)) :
    wpList P ops Q (o :: rest) a W := by
  refine wpList_plain hgd fun K' hK' => ?_
  obtain ⟨w', hrun, M1⟩ := M.out.put hu4 hu9 ht s hs hn
  unfold Oper.wp
  simp [execOp, ho, hm, hx, hv, hrun, Result.andThen]
  exact hK' _ _ (h w' ⟨M1⟩)
end
end Go.Proofs.YtonnlkpmfmknlaaDoor.Hctx
end

section
/-
  What script.Parse calls in the library, in short words; the world's standing facts.
-/
set_option linter.unusedVariables false
set_option linter.unusedSimpArgs false
namespace Go.Proofs.YtonnlkpmfmknlaaDoor.Hof
open Go.RowKit Go.Shelf Go.Proofs.YtonnlkpmfmknlaaDoorW.PrintWords Go.Proofs.YtonnlkpmfmknlaaDoorW.PrintLast Go.Proofs.YtonnlkpmfmknlaaDoorW.PrintMore Hctx
/-- What stands in the listed variables. -/
structure Std (w : World) : Prop where
  size : 7 < w.heap.size
  max : ∃ m, w.cell? ⟨1, 0, none⟩ = some (.int .i64 m)
  esyn : ∃ te pe, w.cell? ⟨2, 0, none⟩ = some (.iface te pe)
  erng : ∃ te pe, w.cell? ⟨3, 0, none⟩ = some (.iface te pe)
theorem Std.below {w W : World} (h : Std w) (hb : Below w.heap.size w W) : Std W := by
  have hc : ∀ a : Addr, a.block ≤ 7 → W.cell? a = w.cell? a := fun a ha => hb.cell (Nat.lt_of_le_of_lt ha h.size)
  refine ⟨Nat.lt_of_lt_of_le h.size hb.size, ?_, ?_, ?_⟩
  · obtain ⟨m, hm⟩ := h.max; exact ⟨m, (hc _ (by decide)).trans hm⟩
  · obtain ⟨m, p, hm⟩ := h.esyn; exact ⟨m, p, (hc _ (by decide)).trans hm⟩
  · obtain ⟨m, p, hm⟩ := h.erng; exact ⟨m, p, (hc _ (by decide)).trans hm⟩
theorem below_bw {w w' : World} (h : w' = w ∨ ∃ t, w' = Lib.bytesWorld w 5 t) : Below w.heap.size w w' := by
  rcases h with rfl | ⟨t, rfl⟩
  · exact Below.refl _ _
  · exact Lib.bytesWorld_below _ _ _
def I64 (n : Int) : Prop := -9223372036854775808 ≤ n ∧ n ≤ 9223372036854775807
section
variable {w : World}
theorem uint_ok (S : Std w) (s : ByteArray) (hs : s.size ≤ 262144) (u : Nat) (h : Lib.parseUintB 32 s.data.toList = .ok u) :
    Calls Tryd.prog 56 #[.string s, .int .i64 10, .int .i64 32] w fun e w' => e = .returned (.tuple #[.int .u64 u, .nilIface]) ∧ Below w.heap.size w w' :=
  (Tryd.strconv_ParseUint_10_at32_ok s (by omega) u h w).mono fun e w' ⟨he, hw⟩ => ⟨he, below_bw (hw.imp id fun h => ⟨s, h⟩)⟩
theorem uint_bad (S : Std w) (s : ByteArray) (hs : s.size ≤ 262144) (h : ¬ ∃ u, Lib.parseUintB 32 s.data.toList = .ok u) :
    Calls Tryd.prog 56 #[.string s, .int .i64 10, .int .i64 32] w fun e w' => ∃ (u : Int) (te : TypeId) (pe : Value), e = .returned (.tuple #[.int .u64 u, .iface te pe]) ∧ Below w.heap.size w w' := by
  rcases hc : Lib.parseUintB 32 s.data.toList with u | _ | _
  · exact absurd ⟨u, hc⟩ h
  · obtain ⟨te, pe, hv⟩ := S.esyn
    exact (Tryd.strconv_ParseUint_10_at32_syntax s (by omega) hc _ w hv (.inr ⟨te, pe, rfl⟩)).mono fun e w' ⟨N, he, _, _, hb⟩ => ⟨_, _, _, he, hb⟩
  · obtain ⟨te, pe, hv⟩ := S.erng
    exact (Tryd.strconv_ParseUint_10_at32_range s (by omega) hc _ w hv (.inr ⟨te, pe, rfl⟩)).mono fun e w' ⟨N, he, _, _, hb⟩ => ⟨_, _, _, he, hb⟩
theorem atoi_ok (S : Std w) (s : ByteArray) (hs : s.size ≤ 262144) (v : Int) (h : Lib.atoiAll s.data.toList = .ok v) :
    Calls Tryd.prog 55 #[.string s] w fun e w' => e = .returned (.tuple #[.int .i64 v, .nilIface]) ∧ Below w.heap.size w w' :=
  (Tryd.strconv_Atoi_ok s (by omega) v h w).mono fun e w' ⟨he, hw⟩ => ⟨he, below_bw hw⟩
theorem atoi_bad (S : Std w) (s : ByteArray) (hs : s.size ≤ 262144) (h : ¬ ∃ u, Lib.atoiAll s.data.toList = .ok u) :
    Calls Tryd.prog 55 #[.string s] w fun e w' => ∃ (u : Int) (te : TypeId) (pe : Value), e = .returned (.tuple #[.int .i64 u, .iface te pe]) ∧ Below w.heap.size w w' := by
  rcases hc : Lib.atoiAll s.data.toList with u | _ | _
  · exact absurd ⟨u, hc⟩ h
  · obtain ⟨te, pe, hv⟩ := S.esyn
    exact (Tryd.strconv_Atoi_syntax s (by omega) hc _ w hv (.inr ⟨te, pe, rfl⟩)).mono fun e w' ⟨N, he, _, _, hb⟩ => ⟨_, _, _, he, hb⟩
  · obtain ⟨te, pe, hv⟩ := S.erng
    exact (Tryd.strconv_Atoi_range s (by omega) hc _ w hv (.inr ⟨te, pe, rfl⟩)).mono fun e w' ⟨N, he, _, _, hb⟩ => ⟨_, _, _, he, hb⟩
theorem pint_ok (S : Std w) (s : ByteArray) (hs : s.size ≤ 262144) (v : Int) (h : Lib.parseIntB 64 s.data.toList = .ok v) :
    Calls Tryd.prog 57 #[.string s, .int .i64 10, .int .i64 64] w fun e w' => e = .returned (.tuple #[.int .i64 v, .nilIface]) ∧ Below w.heap.size w w' :=
  (Tryd.strconv_ParseInt_10_at64_ok s (by omega) v h w).mono fun e w' ⟨he, hw⟩ => ⟨he, below_bw hw⟩
theorem pint_bad (S : Std w) (s : ByteArray) (hs : s.size ≤ 262144) (h : ¬ ∃ u, Lib.parseIntB 64 s.data.toList = .ok u) :
    Calls Tryd.prog 57 #[.string s, .int .i64 10, .int .i64 64] w fun e w' => ∃ (u : Int) (te : TypeId) (pe : Value), e = .returned (.tuple #[.int .i64 u, .iface te pe]) ∧ Below w.heap.size w w' := by
  rcases hc : Lib.parseIntB 64 s.data.toList with u | _ | _
  · exact absurd ⟨u, hc⟩ h
  · obtain ⟨te, pe, hv⟩ := S.esyn
    exact (Tryd.strconv_ParseInt_10_at64_syntax s (by omega) hc _ w hv (.inr ⟨te, pe, rfl⟩)).mono fun e w' ⟨N, he, _, _, hb⟩ => ⟨_, _, _, he, hb⟩
  · obtain ⟨te, pe, hv⟩ := S.erng
    exact (Tryd.strconv_ParseInt_10_at64_range s (by omega) hc _ w hv (.inr ⟨te, pe, rfl⟩)).mono fun e w' ⟨N, he, _, _, hb⟩ => ⟨_, _, _, he, hb⟩
/-- strings.Split by one byte: the pieces, in a new block. -/
def pcs (s : ByteArray) (c : UInt8) : List ByteArray := Lib.splitB ⟨#[c]⟩ 0 (Lib.countB s ⟨#[c]⟩) s
theorem pcs_len (s : ByteArray) (c : UInt8) : (pcs s c).length = Lib.countB s ⟨#[c]⟩ + 1 := Lib.splitB_all ⟨#[c]⟩ (by simp [ByteArray.size]) 0 _ s rfl
theorem split_calls (S : Std w) (s : ByteArray) (c : UInt8) (hs : s.size ≤ 262144) :
    Calls Tryd.prog 29 #[.string s, .string ⟨#[c]⟩] w fun e w' => e = .returned (.slice (some ⟨w.heap.size, 0, none⟩) (pcs s c).length (pcs s c).length) ∧ w' = w.alloc (.cells ((pcs s c).map Value.string).toArray 9) := by
  obtain ⟨m, hm⟩ := S.max
  rw [pcs_len]
  exact Tryd.strings_Split s ⟨#[c]⟩ m w (by omega) hm (by simp [ByteArray.size])
end
theorem splitB_size (sep : ByteArray) : ∀ (k : Nat) (s : ByteArray), ∀ p ∈ Lib.splitB sep 0 k s, p.size ≤ s.size
  | 0, s, p, h => by rw [Lib.splitB_zero, List.mem_singleton] at h; rw [h]; exact Nat.le_refl _
  | k + 1, s, p, h => by
    rw [Lib.splitB] at h
    split at h
    · rw [List.mem_singleton] at h; rw [h]; exact Nat.le_refl _
    · rcases List.mem_cons.1 h with rfl | h
      · simp only [ByteArray.size_extract]; omega
      · have := splitB_size sep k _ p h
        simp only [ByteArray.size_extract] at this; omega
theorem pcs_size {s : ByteArray} {c : UInt8} {p : ByteArray} (h : p ∈ pcs s c) : p.size ≤ s.size := splitB_size _ _ _ p h
end Go.Proofs.YtonnlkpmfmknlaaDoor.Hof
end

section
/-
  What the listed variables hold, as one fact.
-/
set_option linter.unusedVariables false
namespace Go.Proofs.YtonnlkpmfmknlaaDoor.Laid
open Go.RowKit
def LibStd (w : World) : Prop := Hof.Std w
theorem LibStd.below {w w1 : World} (h : LibStd w) (hb : Below w.heap.size w w1) : LibStd w1 := Hof.Std.below h hb
end Go.Proofs.YtonnlkpmfmknlaaDoor.Laid
end

section
-- laid by a program of this session (wip/gp.sh)
namespace Go.Proofs.YtonnlkpmfmknlaaDoor.GA
open Go.RowKit Go.Proofs.YtonnlkpmfmknlaaDoorW.PrintWords Go.Proofs.YtonnlkpmfmknlaaDoorW.PrintLast Go.Proofs.YtonnlkpmfmknlaaDoorW.PrintMore
attribute [local go_sem] max2_int min2_int max_two min_two max_three min_three max_four min_four   -- for this text's walks alone
set_option linter.unusedVariables false
set_option linter.unusedSimpArgs false



def errW : Option Int → Value
  | none => .nilIface
  | some c => .iface 124 (.int .i64 c)
theorem errW_none : errW none = .nilIface := rfl
theorem errW_some (c : Int) : errW (some c) = .iface 124 (.int .i64 c) := rfl

theorem info2 : (Tryd.prog.info? 2).map (fun i => (i.zero, i.size, i.bytes)) = some (some (.int .i64 0), 1, 8) := by kernel_rfl
theorem info3 : (Tryd.prog.info? 3).map (fun i => (i.zero, i.size, i.bytes)) = some (some (.int .i64 0), 1, 8) := by kernel_rfl
theorem info5 : (Tryd.prog.info? 5).map (fun i => (i.zero, i.size, i.bytes)) = some (some (.int .u8 0), 1, 1) := by kernel_rfl
theorem info9 : (Tryd.prog.info? 9).map (fun i => (i.zero, i.size, i.bytes)) = some (some (.string ⟨#[]⟩), 1, 16) := by kernel_rfl
theorem info32 : (Tryd.prog.info? 32).map (fun i => (i.zero, i.size, i.bytes)) = some (some (.agg #[(.slice none 0 0), (.slice none 0 0)]), 2, 48) := by kernel_rfl
theorem info36 : (Tryd.prog.info? 36).map (fun i => (i.zero, i.size, i.bytes)) = some (some (.int .u32 0), 1, 4) := by kernel_rfl
-- the values' own types
def rd_L3 (xs : List (List Int)) (i : Int) : (List Int) := xs.getD i.toNat ([] : List Int)
theorem at_L3 {w : World} {A : Option Addr} {n : Nat} {xs : List (List Int)} (h : Kd.C (Kd.slice 36 (Kd.int .u32)) w A n xs) (i : Int) (h0 : 0 ≤ i) (h1 : i < n) : ∃ ad A0 c0, A = some ad ∧ w.cell? (ad.add i.toNat) = some (.slice A0 (rd_L3 xs i).length c0) ∧ (rd_L3 xs i).length ≤ c0 ∧ (Kd.int .u32).C w A0 (rd_L3 xs i).length (rd_L3 xs i) := by
  obtain ⟨ad, c, e, _, hK, hc0⟩ := Kd.C_get h ([] : List Int) i h0 h1
  have hc : ∀ j u, c[j]? = some u → w.cell? (ad.add (i.toNat * 1 + j)) = some u := hc0
  obtain ⟨A0, c0, rfl, l0, g0⟩ := hK
  exact ⟨ad, A0, c0, e, by have hq := hc 0 _ rfl; rwa [Nat.mul_one, Nat.add_zero] at hq, l0, g0⟩

def rd_L5 (xs : List (List Int)) (i : Int) : (List Int) := xs.getD i.toNat ([] : List Int)
theorem at_L5 {w : World} {A : Option Addr} {n : Nat} {xs : List (List Int)} (h : Kd.C (Kd.slice 2 (Kd.int .i64)) w A n xs) (i : Int) (h0 : 0 ≤ i) (h1 : i < n) : ∃ ad A0 c0, A = some ad ∧ w.cell? (ad.add i.toNat) = some (.slice A0 (rd_L5 xs i).length c0) ∧ (rd_L5 xs i).length ≤ c0 ∧ (Kd.int .i64).C w A0 (rd_L5 xs i).length (rd_L5 xs i) := by
  obtain ⟨ad, c, e, _, hK, hc0⟩ := Kd.C_get h ([] : List Int) i h0 h1
  have hc : ∀ j u, c[j]? = some u → w.cell? (ad.add (i.toNat * 1 + j)) = some u := hc0
  obtain ⟨A0, c0, rfl, l0, g0⟩ := hK
  exact ⟨ad, A0, c0, e, by have hq := hc 0 _ rfl; rwa [Nat.mul_one, Nat.add_zero] at hq, l0, g0⟩

/-! #### struct type 32 -/
structure S32 where
  f0 : (List Int)
  f1 : (List Int)
def z32 : S32 := ⟨([] : List Int), ([] : List Int)⟩
def k32 : Kd S32 := Kd.iso (Kd.pair (Kd.slice 36 (Kd.int .u32)) (Kd.slice 2 (Kd.int .i64))) (fun x : S32 => (x.f0, x.f1))
theorem k32_heap : Kd.Heap k32 := Kd.heap_iso _ (Kd.heap_pair (Kd.heap_slice 36 (Kd.heap_int .u32)) (Kd.heap_slice 2 (Kd.heap_int .i64)))
theorem k32_open {w : World} {x : S32} {cs : List Value} (h : k32.K w x cs) : ∃ A0 c0 A1 c1, cs = [.slice A0 x.f0.length c0, .slice A1 x.f1.length c1] ∧ x.f0.length ≤ c0 ∧ (Kd.int .u32).C w A0 x.f0.length x.f0 ∧ x.f1.length ≤ c1 ∧ (Kd.int .i64).C w A1 x.f1.length x.f1 := by
  obtain ⟨_, _, rfl, ⟨A0, c0, rfl, l0, g0⟩, ⟨A1, c1, rfl, l1, g1⟩⟩ := h
  exact ⟨A0, c0, A1, c1, rfl, l0, g0, l1, g1⟩
theorem k32_openM {w : World} {base : Nat} {ok : Nat → Prop} {x : S32} {cs : List Value} (h : k32.M w base ok x cs) : ∃ v0 v1, cs = [v0, v1] ∧ (Kd.int .u32).R 36 w base ok v0 x.f0 ∧ (Kd.int .i64).R 2 w base ok v1 x.f1 := by
  obtain ⟨_, _, rfl, ⟨v0, rfl, g0⟩, ⟨v1, rfl, g1⟩⟩ := h
  exact ⟨v0, v1, rfl, g0, g1⟩
theorem k32_mk (w : World) (x : S32) {A0 : Option Addr} {c0 : Nat} (l0 : x.f0.length ≤ c0) (g0 : (Kd.int .u32).C w A0 x.f0.length x.f0) {A1 : Option Addr} {c1 : Nat} (l1 : x.f1.length ≤ c1) (g1 : (Kd.int .i64).C w A1 x.f1.length x.f1) : k32.K w x [.slice A0 x.f0.length c0, .slice A1 x.f1.length c1] := ⟨[.slice A0 x.f0.length c0], [.slice A1 x.f1.length c1], rfl, ⟨A0, c0, rfl, l0, g0⟩, ⟨A1, c1, rfl, l1, g1⟩⟩
theorem k32_mkM (w : World) (base : Nat) (ok : Nat → Prop) (x : S32) {v0 : Value} (g0 : (Kd.int .u32).R 36 w base ok v0 x.f0) {v1 : Value} (g1 : (Kd.int .i64).R 2 w base ok v1 x.f1) : k32.M w base ok x [v0, v1] := ⟨[v0], [v1], rfl, ⟨v0, rfl, g0⟩, ⟨v1, rfl, g1⟩⟩
theorem k32_openF {W : World} {ok : Nat → Prop} {x : S32} {cs : List Value} (h : Kd.FK k32 W ok x cs) : ∃ A0 c0 A1 c1, cs = [.slice A0 x.f0.length c0, .slice A1 x.f1.length c1] ∧ x.f0.length ≤ c0 ∧ Kd.F (Kd.int .u32) W ok A0 x.f0.length x.f0 ∧ x.f1.length ≤ c1 ∧ Kd.F (Kd.int .i64) W ok A1 x.f1.length x.f1 := by
  obtain ⟨A0, c0, A1, c1, rfl, l0, _, l1, _⟩ := k32_open (Kd.FK_now h)
  exact ⟨A0, c0, A1, c1, rfl, l0, (fun W' hW => by obtain ⟨A0_, c0_, A1_, c1_, he, l0_, g0_, l1_, g1_⟩ := k32_open (h W' hW); injection (Option.some.inj (show some (Value.slice A0 x.f0.length c0) = some (Value.slice A0_ x.f0.length c0_) from congrArg (fun l => l[0]?) he)) with ha_ _ _; rw [ha_]; exact g0_), l1, (fun W' hW => by obtain ⟨A0_, c0_, A1_, c1_, he, l0_, g0_, l1_, g1_⟩ := k32_open (h W' hW); injection (Option.some.inj (show some (Value.slice A1 x.f1.length c1) = some (Value.slice A1_ x.f1.length c1_) from congrArg (fun l => l[1]?) he)) with ha_ _ _; rw [ha_]; exact g1_)⟩
theorem k32_mkF (W : World) (ok : Nat → Prop) (x : S32) {A0 : Option Addr} {c0 : Nat} (l0 : x.f0.length ≤ c0) (g0 : Kd.F (Kd.int .u32) W ok A0 x.f0.length x.f0) {A1 : Option Addr} {c1 : Nat} (l1 : x.f1.length ≤ c1) (g1 : Kd.F (Kd.int .i64) W ok A1 x.f1.length x.f1) : Kd.FK k32 W ok x [.slice A0 x.f0.length c0, .slice A1 x.f1.length c1] := fun W2 hW => k32_mk W2 x l0 (g0 W2 hW) l1 (g1 W2 hW)
def rd_T32 (xs : List S32) (i : Int) : S32 := xs.getD i.toNat z32
theorem at_T32 {w : World} {A : Option Addr} {n : Nat} {xs : List S32} (h : Kd.C k32 w A n xs) (i : Int) (h0 : 0 ≤ i) (h1 : i < n) : ∃ ad A0 c0 A1 c1, A = some ad ∧ w.cell? (ad.add (i.toNat * 2)) = some (.slice A0 (rd_T32 xs i).f0.length c0) ∧ w.cell? ⟨(ad.add (i.toNat * 2)).block, (ad.add (i.toNat * 2)).off + 1, none⟩ = some (.slice A1 (rd_T32 xs i).f1.length c1) ∧ (rd_T32 xs i).f0.length ≤ c0 ∧ (Kd.int .u32).C w A0 (rd_T32 xs i).f0.length (rd_T32 xs i).f0 ∧ (rd_T32 xs i).f1.length ≤ c1 ∧ (Kd.int .i64).C w A1 (rd_T32 xs i).f1.length (rd_T32 xs i).f1 := by
  obtain ⟨ad, c, e, _, hK, hc0⟩ := Kd.C_get h z32 i h0 h1
  have hc : ∀ j u, c[j]? = some u → w.cell? (ad.add (i.toNat * 2 + j)) = some u := hc0
  obtain ⟨A0, c0, A1, c1, rfl, l0, g0, l1, g1⟩ := k32_open hK
  exact ⟨ad, A0, c0, A1, c1, e, hc 0 _ rfl, by rw [← add_field _ _ 1 (by omega)]; exact hc 1 _ rfl, l0, g0, l1, g1⟩

end Go.Proofs.YtonnlkpmfmknlaaDoor.GA
end

section
/-
  The rows of a script's choices as a call's own memory: even places are the steals, odd ones the inputs.
-/
set_option linter.unusedVariables false
set_option linter.unusedSimpArgs false
namespace Go.Proofs.YtonnlkpmfmknlaaDoor.Hctx
open Go.RowKit Go.Proofs.YtonnlkpmfmknlaaDoorW.PrintWords Go.Proofs.YtonnlkpmfmknlaaDoorW.PrintLast Go.Proofs.YtonnlkpmfmknlaaDoorW.PrintMore
def mkR (b : Bool) (p : Value × List Int) : Row := if b then ⟨Kd.int .u32, 36, p.1, p.2⟩ else ⟨Kd.int .i64, 2, p.1, p.2⟩
theorem mkR_v (b : Bool) (p : Value × List Int) : (mkR b p).v = p.1 := by cases b <;> rfl
def rowsOf : Bool → List (Value × List Int) → List Row
  | _, [] => []
  | b, p :: t => mkR b p :: rowsOf (!b) t
def par (b : Bool) (i : Nat) : Bool := if i % 2 = 0 then b else !b
theorem par_succ (b : Bool) (i : Nat) : par b (i + 1) = par (!b) i := by
  unfold par
  rcases Nat.mod_two_eq_zero_or_one i with h | h
  · rw [if_neg (by omega), if_pos h]
  · rw [if_pos (by omega), if_neg (by omega)]; simp
theorem rowsOf_len : ∀ (L : List (Value × List Int)) (b : Bool), (rowsOf b L).length = L.length
  | [], _ => rfl
  | p :: t, b => by rw [rowsOf, List.length_cons, rowsOf_len t, List.length_cons]
theorem rowsOf_get : ∀ (L : List (Value × List Int)) (b : Bool) (i : Nat), (rowsOf b L)[i]? = (L[i]?).map (mkR (par b i))
  | [], _, i => by simp [rowsOf]
  | p :: t, b, 0 => rfl
  | p :: t, b, i + 1 => by
    rw [rowsOf, List.getElem?_cons_succ, List.getElem?_cons_succ, rowsOf_get t (!b) i, par_succ]
theorem rowsOf_set : ∀ (L : List (Value × List Int)) (b : Bool) (i : Nat) (p : Value × List Int), rowsOf b (L.set i p) = (rowsOf b L).set i (mkR (par b i) p)
  | [], _, i, _ => by simp [rowsOf]
  | q :: t, b, 0, p => rfl
  | q :: t, b, i + 1, p => by
    rw [List.set_cons_succ, rowsOf, rowsOf, List.set_cons_succ, rowsOf_set t (!b) i p, par_succ]
section
variable {P : Program} {es : List TypeId} {w0 W : World} {l : List (Nat × Array Value × TypeId)} {rows : List Row} {g n : Nat} {had : List UInt8 → Bool}
/-- A row to the front. -/
theorem Mem.front (M : Mem es w0 W l rows) (i : Nat) {r : Row} (h : rows[i]? = some r) : Mem es w0 W l (r :: rows.eraseIdx i) := by
  have hi : i < rows.length := (List.getElem?_eq_some_iff.1 h).1
  refine M.rowsBy (fun k => match k with | 0 => i | k + 1 => if k < i then k else k + 1) (fun k => if k = i then 0 else if k < i then k + 1 else k) (fun k => ?_) (fun a b ha hb hab => ?_) (fun k hk => ?_)
  · cases k with
    | zero => exact h.symm
    | succ k =>
      rw [List.getElem?_cons_succ, List.getElem?_eraseIdx]
      show _ = rows[if k < i then k else k + 1]?
      split <;> rfl
  · cases a with
    | zero =>
      cases b with
      | zero => rfl
      | succ b =>
        dsimp only at hab
        split at hab <;> omega
    | succ a =>
      cases b with
      | zero =>
        dsimp only at hab
        split at hab <;> omega
      | succ b =>
        dsimp only at hab
        split at hab <;> split at hab <;> omega
  · try dsimp only
    by_cases h1 : k = i
    · rw [if_pos h1]; exact h1.symm
    · rw [if_neg h1]
      by_cases h2 : k < i
      · rw [if_pos h2]
        show (if k < i then k else k + 1) = k
        rw [if_pos h2]
      · rw [if_neg h2]
        obtain ⟨j, rfl⟩ : ∃ j, k = j + 1 := ⟨k - 1, by omega⟩
        show (if j < i then j else j + 1) = j + 1
        rw [if_neg (by omega)]
/-- .. and back to its place. -/
theorem Mem.back {r : Row} (i : Nat) (hi : i < rows.length) (M : Mem es w0 W l (r :: rows.eraseIdx i)) : Mem es w0 W l (rows.set i r) := by
  refine M.rowsBy (fun k => if k = i then 0 else if k < i then k + 1 else k) (fun k => match k with | 0 => i | k + 1 => if k < i then k else k + 1) (fun k => ?_) (fun a b ha hb hab => ?_) (fun k hk => ?_)
  · rw [List.getElem?_set]
    by_cases h1 : i = k
    · subst h1
      rw [if_pos rfl, if_pos hi]
      show _ = (r :: rows.eraseIdx i)[if i = i then 0 else _]?
      rw [if_pos rfl]; rfl
    · rw [if_neg h1]
      show rows[k]? = (r :: rows.eraseIdx i)[if k = i then 0 else if k < i then k + 1 else k]?
      rw [if_neg (Ne.symm h1)]
      by_cases h2 : k < i
      · rw [if_pos h2, List.getElem?_cons_succ, List.getElem?_eraseIdx, if_pos h2]
      · rw [if_neg h2]
        obtain ⟨j, rfl⟩ : ∃ j, k = j + 1 := ⟨k - 1, by omega⟩
        rw [List.getElem?_cons_succ, List.getElem?_eraseIdx, if_neg (by omega)]
  · try dsimp only at hab
    split at hab <;> split at hab <;> (try split at hab) <;> (try split at hab) <;> omega
  · cases k with
    | zero => show (if i = i then 0 else _) = 0; rw [if_pos rfl]
    | succ k =>
      show (if (if k < i then k else k + 1) = i then 0 else if (if k < i then k else k + 1) < i then (if k < i then k else k + 1) + 1 else (if k < i then k else k + 1)) = k + 1
      by_cases h2 : k < i
      · simp only [if_pos h2]; rw [if_neg (by omega)]
      · simp only [if_neg h2]; rw [if_neg (by omega), if_neg (by omega)]
/-- The slices' cells. -/
def cellsL (L : List (Value × List Int)) : Array Value := (L.map (·.1)).toArray
theorem cellsL_get (L : List (Value × List Int)) (i : Nat) {p : Value × List Int} (h : L[i]? = some p) : (cellsL L)[i]? = some p.1 := by
  unfold cellsL
  rw [List.getElem?_toArray, List.getElem?_map, h]; rfl
theorem cellsL_set (L : List (Value × List Int)) (i : Nat) (p : Value × List Int) : (cellsL L).setIfInBounds i p.1 = cellsL (L.set i p) := by
  unfold cellsL
  rw [List.setIfInBounds_toArray, List.map_set]
end
end Go.Proofs.YtonnlkpmfmknlaaDoor.Hctx
end

section
/-
  What is told in digits reads back; what is joined by one byte splits back. Plain Lean.
-/
set_option linter.unusedVariables false
set_option linter.unusedSimpArgs false
namespace Go.Proofs.YtonnlkpmfmknlaaDoor.Num
open Go.Lib
theorem digit_nat (d : Nat) (h : d < 10) : (UInt8.ofNat (48 + d)).toNat = 48 + d := by
  rw [UInt8.toNat_ofNat']
  omega
theorem dec_step {u : Nat} (h : ¬ u < 10) : decDigits u = decDigits (u / 10) ++ [UInt8.ofNat (48 + u % 10)] := by conv => lhs; rw [decDigits, dif_neg h]
theorem uintM_digits (M : Nat) : ∀ (n u : Nat), u ≤ n → u ≤ M → u < 18446744073709551616 → ∀ r, parseUintM M 0 (decDigits u ++ r) = parseUintM M u r
  | n, u, hn, h1, h2, r => by
    by_cases c : u < 10
    · rw [decDigits_one c, List.singleton_append, parseUintM, digit_nat u c, if_pos (by omega), if_neg (by omega), if_neg (by omega)]
      congr 1
      omega
    · obtain ⟨n, rfl⟩ : ∃ m, n = m + 1 := ⟨n - 1, by omega⟩
      rw [dec_step c, List.append_assoc, List.singleton_append, uintM_digits M n (u / 10) (by omega) (by omega) (by omega), parseUintM, digit_nat _ (by omega), if_pos (by omega), if_neg (by omega), if_neg (by omega)]
      congr 1
      omega
theorem uint10_digits : ∀ (n u : Nat), u ≤ n → u < 18446744073709551616 → ∀ r, parseUint10 0 (decDigits u ++ r) = parseUint10 u r
  | n, u, hn, h2, r => by
    by_cases c : u < 10
    · rw [decDigits_one c, List.singleton_append, parseUint10, digit_nat u c, if_pos (by omega), if_neg (by omega), if_neg (by omega)]
      congr 1
      omega
    · obtain ⟨n, rfl⟩ : ∃ m, n = m + 1 := ⟨n - 1, by omega⟩
      rw [dec_step c, List.append_assoc, List.singleton_append, uint10_digits n (u / 10) (by omega) (by omega), parseUint10, digit_nat _ (by omega), if_pos (by omega), if_neg (by omega), if_neg (by omega)]
      congr 1
      omega
theorem dec_all : ∀ (n u : Nat), u ≤ n → ∀ b ∈ decDigits u, 48 ≤ b.toNat ∧ b.toNat ≤ 57
  | n, u, hn, b, hb => by
    by_cases c : u < 10
    · rw [decDigits_one c, List.mem_singleton] at hb
      subst hb
      rw [digit_nat u c]; omega
    · obtain ⟨n, rfl⟩ : ∃ m, n = m + 1 := ⟨n - 1, by omega⟩
      rw [dec_step c, List.mem_append, List.mem_singleton] at hb
      rcases hb with hb | rfl
      · exact dec_all n (u / 10) (by omega) b hb
      · rw [digit_nat _ (by omega)]; omega
theorem dec_head (u : Nat) : ∃ c r, decDigits u = c :: r ∧ 48 ≤ c.toNat ∧ c.toNat ≤ 57 := by
  cases h : decDigits u with
  | nil =>
    have := decDigits_length u
    rw [h] at this
    have h2 : 1 ≤ nDigits u := by unfold nDigits; split <;> omega
    simp at this
    omega
  | cons c r => exact ⟨c, r, rfl, dec_all u u (Nat.le_refl _) c (by rw [h]; exact List.mem_cons_self)⟩
theorem uintB_digits (u : Nat) (h : u < 18446744073709551616) : parseUintB 64 (decDigits u) = .ok u := by
  obtain ⟨c, r, e, _⟩ := dec_head u
  unfold parseUintB
  rw [if_neg (by rw [e]; simp)]
  have := uintM_digits (2 ^ 64 - 1) u u (Nat.le_refl _) (by omega) h []
  rw [List.append_nil] at this
  rw [this]; rfl
theorem mag_digits (u : Nat) (h : u < 18446744073709551616) : parseMag (decDigits u) = .ok u := by
  obtain ⟨c, r, e, _⟩ := dec_head u
  unfold parseMag
  rw [if_neg (by rw [e]; simp)]
  have := uint10_digits u u (Nat.le_refl _) h []
  rw [List.append_nil] at this
  rw [this]; rfl
theorem atoi_itoa (n : Int) (h0 : -9223372036854775808 ≤ n) (h1 : n ≤ 9223372036854775807) : atoiAll (itoa n) = .ok n := by
  unfold itoa
  by_cases c : n < 0
  · rw [if_pos c]
    unfold atoiAll
    have e45 : (45 : UInt8).toNat = 45 := rfl
    simp only [e45, or_true, if_true, mag_digits n.natAbs (by omega), true_and, not_true, false_and, if_false]
    rw [if_neg (by omega)]
    congr 1
    omega
  · rw [if_neg c]
    obtain ⟨d, r, e, e1, e2⟩ := dec_head n.toNat
    have hm := mag_digits n.toNat (by omega)
    rw [e] at hm ⊢
    unfold atoiAll
    have n3 : ¬ d.toNat = 43 := by omega
    have n2 : ¬ d.toNat = 45 := by omega
    simp only [n3, n2, or_self, if_false, hm, not_false_eq_true, true_and, false_and]
    rw [if_neg (by omega)]
    congr 1
    omega
theorem int_itoa (n : Int) (h0 : -9223372036854775808 ≤ n) (h1 : n ≤ 9223372036854775807) : parseIntB 64 (itoa n) = .ok n := by
  unfold itoa
  by_cases c : n < 0
  · rw [if_pos c]
    unfold parseIntB
    have e45 : (45 : UInt8).toNat = 45 := rfl
    simp only [e45, or_true, if_true, uintB_digits n.natAbs (by omega), true_and, not_true, false_and, if_false]
    rw [if_neg (by omega)]
    congr 1
    omega
  · rw [if_neg c]
    obtain ⟨d, r, e, e1, e2⟩ := dec_head n.toNat
    have hm := uintB_digits n.toNat (by omega)
    rw [e] at hm ⊢
    unfold parseIntB
    have n3 : ¬ d.toNat = 43 := by omega
    have n2 : ¬ d.toNat = 45 := by omega
    simp only [n3, n2, or_self, if_false, hm, not_false_eq_true, true_and, false_and]
    rw [if_neg (by omega)]
    congr 1
    omega
theorem itoa_no (n : Int) (c : UInt8) (h1 : c.toNat < 45) : c ∉ itoa n := by
  intro h
  unfold itoa at h
  split at h
  · rcases List.mem_cons.1 h with rfl | h
    · exact absurd h1 (by decide)
    · have := dec_all _ _ (Nat.le_refl _) c h; omega
  · have := dec_all _ _ (Nat.le_refl _) c h; omega
theorem dec_no (u : Nat) (c : UInt8) (h1 : c.toNat < 45) : c ∉ decDigits u := fun h => by
  have := dec_all _ _ (Nat.le_refl _) c h; omega
/-- Pieces, a byte between each two. -/
def joinC (c : UInt8) : List (List UInt8) → List UInt8
  | [] => []
  | [p] => p
  | p :: q :: t => p ++ c :: joinC c (q :: t)
theorem index_hit1 (c : UInt8) : ∀ (p r : List UInt8), c ∉ p → index (p ++ c :: r) [c] = p.length
  | [], r, _ => by simp [index, List.isPrefixOf]
  | b :: p, r, h => by
    have hb : b ≠ c := fun e => h (by rw [e]; exact List.mem_cons_self)
    have hp : c ∉ p := fun e => h (List.mem_cons_of_mem _ e)
    have e : ([c] : List UInt8).isPrefixOf (b :: (p ++ c :: r)) = false := by simp [List.isPrefixOf, Ne.symm hb]
    rw [List.cons_append, index, e, index_hit1 c p r hp]
    have : ¬ ((p.length : Int) == -1) = true := by simp
    simp [this]
theorem index_miss1 (c : UInt8) : ∀ (p : List UInt8), c ∉ p → index p [c] = -1
  | [], _ => by simp [index]
  | b :: p, h => by
    have hb : b ≠ c := fun e => h (by rw [e]; exact List.mem_cons_self)
    have hp : c ∉ p := fun e => h (List.mem_cons_of_mem _ e)
    have e : ([c] : List UInt8).isPrefixOf (b :: p) = false := by simp [List.isPrefixOf, Ne.symm hb]
    rw [index, e, index_miss1 c p hp]
    simp
theorem cut_hit1 (c : UInt8) (p r : List UInt8) (h : c ∉ p) : cut (p ++ c :: r) [c] = (p, r, true) := by
  unfold cut
  rw [index_hit1 c p r h, if_pos (by omega)]
  simp
theorem cut_miss1 (c : UInt8) (p : List UInt8) (h : c ∉ p) : cut p [c] = (p, [], false) := by
  unfold cut
  rw [index_miss1 c p h, if_neg (by omega)]
theorem count_join (c : UInt8) : ∀ (ps : List (List UInt8)), ps ≠ [] → (∀ p ∈ ps, c ∉ p) → (joinC c ps).count c = ps.length - 1
  | [], h, _ => absurd rfl h
  | [p], _, h => by simp [joinC, List.count_eq_zero.2 (h p (by simp))]
  | p :: q :: t, _, h => by
    rw [joinC, List.count_append, List.count_cons_self, count_join c (q :: t) (by simp) (fun x hx => h x (List.mem_cons_of_mem _ hx)), List.count_eq_zero.2 (h p List.mem_cons_self)]
    simp
theorem split_join (c : UInt8) : ∀ (ps : List (List UInt8)), ps ≠ [] → (∀ p ∈ ps, c ∉ p) → splitK [c] 0 (ps.length - 1) (joinC c ps) = ps
  | [], h, _ => absurd rfl h
  | [p], _, h => by simp [joinC, splitK]
  | p :: q :: t, _, h => by
    have hp := h p List.mem_cons_self
    have ih := split_join c (q :: t) (by simp) (fun x hx => h x (List.mem_cons_of_mem _ hx))
    have e : (p :: q :: t).length - 1 = ((q :: t).length - 1) + 1 := by simp
    rw [e, joinC, splitK, index_hit1 c p _ hp]
    have : ¬ ((p.length : Int) == -1) = true := by simp
    rw [if_neg this]
    simp only [Int.toNat_natCast, Nat.add_zero, List.take_left', List.length_singleton]
    congr 1
    rw [show p ++ c :: joinC c (q :: t) = (p ++ [c]) ++ joinC c (q :: t) by simp, List.drop_left' (by simp)]
    exact ih
/-- The number that digits tell. -/
@[irreducible] def dstep (acc : Nat) (b : UInt8) : Nat := acc * 10 + (b.toNat - 48)
def dfold (acc : Nat) (l : List UInt8) : Nat := l.foldl dstep acc
theorem dfold_nil (acc : Nat) : dfold acc [] = acc := rfl
theorem dfold_cons (acc : Nat) (b : UInt8) (r : List UInt8) : dfold acc (b :: r) = dfold (dstep acc b) r := by unfold dfold; rw [List.foldl_cons]
theorem dfold_le (l : List UInt8) : ∀ (acc : Nat), acc ≤ dfold acc l := by
  induction l with
  | nil => intro acc; exact Nat.le_refl _
  | cons b r ih =>
    intro acc
    have := ih (dstep acc b)
    rw [dfold_cons]
    have h : acc ≤ dstep acc b := by unfold dstep; omega
    omega
theorem dfold_dec : ∀ (n u : Nat), u ≤ n → ∀ r, dfold 0 (decDigits u ++ r) = dfold u r
  | n, u, hn, r => by
    by_cases c : u < 10
    · have e : dstep 0 (UInt8.ofNat (48 + u)) = u := by unfold dstep; rw [digit_nat u c]; omega
      rw [decDigits_one c, List.singleton_append, dfold_cons, e]
    · obtain ⟨n, rfl⟩ : ∃ m, n = m + 1 := ⟨n - 1, by omega⟩
      have e : dstep (u / 10) (UInt8.ofNat (48 + u % 10)) = u := by unfold dstep; rw [digit_nat _ (by omega)]; omega
      rw [dec_step c, List.append_assoc, List.singleton_append, dfold_dec n (u / 10) (by omega), dfold_cons, e]
end Go.Proofs.YtonnlkpmfmknlaaDoor.Num
end

section
/-
  A word that is a number tells its value in one way alone; the set of lines' heads. Plain Lean.
-/
set_option linter.unusedVariables false
set_option linter.unusedSimpArgs false
namespace Go.Proofs.YtonnlkpmfmknlaaDoor.Q
open Go.Lib Num
theorem dig_iff (b : UInt8) : dig b = true ↔ 48 ≤ b.toNat ∧ b.toNat ≤ 57 := by unfold dig; simp
theorem dstep_eq (acc : Nat) (b : UInt8) : dstep acc b = acc * 10 + (b.toNat - 48) := by unfold dstep; rfl
theorem uint10_val : ∀ (l : List UInt8) (acc u : Nat), (∀ b ∈ l, dig b = true) → parseUint10 acc l = .ok u → u = dfold acc l
  | [], acc, u, _, h => by rw [parseUint10] at h; injection h with h; rw [dfold_nil]; exact h.symm
  | c :: r, acc, u, hd, h => by
    have hc := (dig_iff c).1 (hd c List.mem_cons_self)
    rw [parseUint10, if_pos hc] at h
    by_cases h1 : 1844674407370955162 ≤ acc
    · rw [if_pos h1] at h; cases h
    · rw [if_neg h1] at h
      by_cases h2 : 18446744073709551616 ≤ acc * 10 + (c.toNat - 48)
      · rw [if_pos h2] at h; cases h
      · rw [if_neg h2] at h
        rw [dfold_cons, dstep_eq]
        exact uint10_val r _ u (fun b hb => hd b (List.mem_cons_of_mem _ hb)) h
theorem dfold_snoc (t : List UInt8) (c : UInt8) (acc : Nat) : dfold acc (t ++ [c]) = dfold acc t * 10 + (c.toNat - 48) := by
  unfold dfold
  rw [List.foldl_append]
  show dstep _ c = _
  rw [dstep_eq]
theorem canon : ∀ (n : Nat) (l : List UInt8), l.length = n → l ≠ [] → (∀ b ∈ l, dig b = true) → l.head? ≠ some 48 → decDigits (dfold 0 l) = l ∧ 1 ≤ dfold 0 l
  | 0, l, hn, h0, _, _ => absurd (List.length_eq_zero_iff.1 hn) h0
  | n + 1, l, hn, h0, hd, hh => by
    rcases List.eq_nil_or_concat l with rfl | ⟨t, c, rfl⟩
    · exact absurd rfl h0
    · rw [List.concat_eq_append] at *
      have hc := (dig_iff c).1 (hd c (by simp))
      have hofc : UInt8.ofNat (48 + (c.toNat - 48)) = c := by
        rw [show 48 + (c.toNat - 48) = c.toNat by omega, UInt8.ofNat_toNat]
      rw [dfold_snoc]
      by_cases ht : t = []
      · subst ht
        have e0 : dfold 0 [] = 0 := rfl
        have hc0 : c ≠ 48 := fun e => hh (by rw [e]; rfl)
        have hc1 : c.toNat ≠ 48 := fun e => hc0 (UInt8.toNat_inj.1 (by rw [e]; rfl))
        rw [e0, Nat.zero_mul, Nat.zero_add, decDigits_one (by omega), hofc]
        exact ⟨rfl, by omega⟩
      · have hlen : t.length = n := by simp at hn; exact hn
        obtain ⟨i1, i2⟩ := canon n t hlen ht (fun b hb => hd b (by simp [hb])) (fun e => hh (by
          cases t with
          | nil => exact absurd rfl ht
          | cons a b => simpa using e))
        rw [dec_step (by omega)]
        rw [show (dfold 0 t * 10 + (c.toNat - 48)) / 10 = dfold 0 t by omega, show (dfold 0 t * 10 + (c.toNat - 48)) % 10 = c.toNat - 48 by omega, i1, hofc]
        exact ⟨rfl, by omega⟩
theorem dec_zero : decDigits 0 = [48] := by rw [decDigits_one (by omega)]; rfl
/-- Digits that are a number say it as Itoa does. -/
theorem mag_canon {l : List UInt8} {u : Nat} (h0 : l ≠ []) (hd : ∀ b ∈ l, dig b = true) (hh : l.head? ≠ some 48 ∨ l = [48]) (h : parseMag l = .ok u) : l = decDigits u := by
  unfold parseMag at h
  rw [if_neg h0] at h
  have hv := uint10_val l 0 u hd h
  rcases hh with hh | rfl
  · rw [hv]; exact (canon l.length l rfl h0 hd hh).1.symm
  · have : dfold 0 [48] = 0 := by unfold dfold; show dstep 0 48 = 0; rw [dstep_eq]; rfl
    rw [hv, this, dec_zero]
theorem trimP_cons (c : UInt8) (r : List UInt8) : trimPrefix (c :: r) [45] = if c = 45 then r else c :: r := by
  unfold trimPrefix hasPrefix
  by_cases h : c = 45
  · subst h; simp [List.isPrefixOf]
  · have : ([45] : List UInt8).isPrefixOf (c :: r) = false := by simp [List.isPrefixOf, Ne.symm h]
    simp [this, h]
theorem numB_parts {s : List UInt8} (h : numB s = true) : trimPrefix s [45] ≠ [] ∧ (∀ b ∈ trimPrefix s [45], dig b = true) ∧ ((trimPrefix s [45]).head? ≠ some 48 ∨ s = [48]) := by
  unfold numB at h
  simp only [Bool.and_eq_true, Bool.or_eq_true, List.all_eq_true, bne_iff_ne, beq_iff_eq] at h
  obtain ⟨⟨h1, h2⟩, h3⟩ := h
  refine ⟨fun e => ?_, h2, h3⟩
  rw [e] at h1; simp at h1
/-- A number that is none below 0. -/
theorem dom_dec {s : List UInt8} (hn : numB s = true) {v : Int} (h : atoiAll s = .ok v) (h0 : 0 ≤ v) : s = decDigits v.toNat := by
  obtain ⟨p1, p2, p3⟩ := numB_parts hn
  cases s with
  | nil => exact absurd rfl p1
  | cons c r =>
    rw [trimP_cons] at p1 p2 p3
    unfold atoiAll at h
    by_cases hc : c = 45
    · subst hc
      rw [if_pos rfl] at p1 p2 p3
      have e45 : (45 : UInt8).toNat = 45 := rfl
      simp only [e45, or_true, if_true, not_true, false_and, if_false, true_and] at h
      have hh : r.head? ≠ some 48 := by
        rcases p3 with p3 | p3
        · exact p3
        · injection p3 with p3 _; exact absurd p3 (by decide)
      cases hm : parseMag r with
      | ok u =>
        rw [hm] at h
        simp only at h
        split at h
        · cases h
        · injection h with h
          have hr := mag_canon p1 p2 (.inl hh) hm
          have hu : u = 0 := by omega
          rw [hu, dec_zero] at hr
          rw [hr] at hh
          exact absurd rfl hh
      | _ => rw [hm] at h; cases h
    · rw [if_neg hc] at p1 p2 p3
      have hcd := (dig_iff c).1 (p2 c List.mem_cons_self)
      have n3 : ¬ c.toNat = 43 := by omega
      have n2 : ¬ c.toNat = 45 := by omega
      simp only [n3, n2, or_self, if_false, not_false_eq_true, true_and, false_and] at h
      cases hm : parseMag (c :: r) with
      | ok u =>
        rw [hm] at h
        simp only at h
        split at h
        · cases h
        · injection h with h
          have hr := mag_canon p1 p2 p3 hm
          rw [← h, Int.toNat_natCast]; exact hr
      | _ => rw [hm] at h; cases h
theorem dec_inj : ∀ (n a b : Nat), a ≤ n → decDigits a = decDigits b → a = b := by
  intro n a b _ h
  have h1 := dfold_dec a a (Nat.le_refl _) []
  have h2 := dfold_dec b b (Nat.le_refl _) []
  rw [List.append_nil] at h1 h2
  rw [h, h2] at h1
  exact h1.symm
/-- The set says which lines there were. -/
def HadR (n : Nat) (had : List UInt8 → Bool) (hd : List Bool) : Prop := hd.length = 2 * n ∧ ∀ d, d < n → ∀ b : Bool, had ((if b then stealW else inputW) ++ decDigits d) = hd.getD (slot d b) false
theorem slot_lt {n d : Nat} (h : d < n) (b : Bool) : slot d b < 2 * n := by unfold slot; cases b <;> simp <;> omega
theorem slot_inj {d d' : Nat} {b b' : Bool} (h : slot d b = slot d' b') : d = d' ∧ b = b' := by
  unfold slot at h
  cases b <;> cases b' <;> simp at h ⊢ <;> omega
theorem key_inj {d d' : Nat} {b b' : Bool} (h : (if b then stealW else inputW) ++ decDigits d = (if b' then stealW else inputW) ++ decDigits d') : d = d' ∧ b = b' := by
  have hb : b = b' := by
    cases b <;> cases b'
    · rfl
    · have := congrArg List.head? h; simp [stealW, inputW] at this
    · have := congrArg List.head? h; simp [stealW, inputW] at this
    · rfl
  subst hb
  exact ⟨dec_inj d d d' (Nat.le_refl _) (List.append_cancel_left h), rfl⟩
theorem HadR.put {n : Nat} {had : List UInt8 → Bool} {hd : List Bool} (h : HadR n had hd) {d : Nat} (hd' : d < n) (b : Bool) : HadR n (fun k => k == (if b then stealW else inputW) ++ decDigits d || had k) (hd.set (slot d b) true) := by
  refine ⟨by rw [List.length_set]; exact h.1, fun e he c => ?_⟩
  have hl := slot_lt he c
  have hl2 := slot_lt hd' b
  have h1 := h.1
  show (((if c then stealW else inputW) ++ decDigits e == (if b then stealW else inputW) ++ decDigits d) || had ((if c then stealW else inputW) ++ decDigits e)) = _
  rw [h.2 e he c]
  rw [List.getD_eq_getElem?_getD, List.getD_eq_getElem?_getD, List.getElem?_set]
  by_cases hk : slot d b = slot e c
  · obtain ⟨rfl, rfl⟩ := slot_inj hk
    rw [if_pos rfl, if_pos (show slot d b < hd.length by omega)]; simp
  · rw [if_neg hk]
    have : ((if c then stealW else inputW) ++ decDigits e == (if b then stealW else inputW) ++ decDigits d) = false := beq_eq_false_iff_ne.mpr (fun e' => hk (by
      obtain ⟨rfl, rfl⟩ := key_inj e'; rfl))
    rw [this, Bool.false_or]
end Go.Proofs.YtonnlkpmfmknlaaDoor.Q
end
