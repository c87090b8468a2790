import Derived.Test.YtonnlkpmfmknlaaDoorMB2
import Derived.Test.YtonnlkpmfmknlaaDoorWApart
import Derived.Test.YtonnlkpmfmknlaaDoorMB0
import Derived.Test.YtonnlkpmfmknlaaDoorMB1
import Derived.Deep.QuietTactic
import Derived.BigQuiet
import Derived.Lib.Hide
import Derived.WalkKit
import Derived.Outline
import Derived.Maps.Own
import Derived.Maps.OwnSet
import Derived.Maps.Views
import Derived.Lib.SmallJoins
section
/-
  Events on rows of ints of a call's own: a literal made, an append, an element stored.
-/
set_option linter.unusedVariables false
set_option linter.unusedSimpArgs false
namespace Go.Proofs.YtonnlkpmfmknlaaDoor.Hctx
open Go.RowKit Go.Proofs.YtonnlkpmfmknlaaDoorW.PrintWords Go.Proofs.YtonnlkpmfmknlaaDoorW.PrintLast Go.Proofs.YtonnlkpmfmknlaaDoorW.PrintMore
section
variable {P : Program} {ops : Array Oper} {rest : List Oper} {o : Oper} {a : Act} {Q : Exit → Act → World → Prop} {es : List TypeId} {w0 W W1 : World} {l : List (Nat × Array Value × TypeId)} {rows : List Row}
/-- The rows in another order. -/
theorem Mem.rowsBy (M : Mem es w0 W l rows) (f g : Nat → Nat) {rows' : List Row} (hf : ∀ i, rows'[i]? = rows[f i]?) (hi : ∀ i j, (rows'[i]?).isSome = true → (rows'[j]?).isSome = true → f i = f j → i = j) (hg : ∀ j, (rows[j]?).isSome = true → f (g j) = j) : Mem es w0 W l rows' := by
  refine ⟨M.below, M.blk, M.apart, fun r hr => ?_, fun i r hr => ?_⟩
  · obtain ⟨i, hi'⟩ := List.mem_iff_getElem?.1 hr
    rw [hf i] at hi'
    exact M.typ r (List.mem_of_getElem? hi')
  · have hr' := hr
    rw [hf i] at hr'
    refine Kd.R_mono (M.owns (f i) r hr') (fun k hk j s hs hj => ?_)
    have hs' := hs
    rw [hf j] at hs'
    exact hk (f j) s hs' (fun he => hj (hi j i (by rw [hs]; rfl) (by rw [hr]; rfl) he))
theorem Mem.swap01 {r s : Row} (M : Mem es w0 W l (r :: s :: rows)) : Mem es w0 W l (s :: r :: rows) := by
  refine M.rowsBy (fun i => match i with | 0 => 1 | 1 => 0 | n + 2 => n + 2) (fun i => match i with | 0 => 1 | 1 => 0 | n + 2 => n + 2) (fun i => ?_) (fun i j _ _ h => ?_) (fun j _ => ?_)
  · match i with | 0 => rfl | 1 => rfl | n + 2 => rfl
  · match i, j, h with
    | 0, 0, _ => rfl
    | 1, 1, _ => rfl
    | n + 2, m + 2, h => exact h
    | 0, 1, h => simp at h
    | 1, 0, h => simp at h
    | 0, n + 2, h => simp at h
    | 1, n + 2, h => simp at h
    | n + 2, 0, h => simp at h
    | n + 2, 1, h => simp at h
  · match j with | 0 => rfl | 1 => rfl | n + 2 => rfl
theorem Mem.front2 {r s t : Row} (M : Mem es w0 W l (r :: s :: t :: rows)) : Mem es w0 W l (t :: r :: s :: rows) := by
  refine M.rowsBy (fun i => match i with | 0 => 2 | 1 => 0 | 2 => 1 | n + 3 => n + 3) (fun i => match i with | 0 => 1 | 1 => 2 | 2 => 0 | n + 3 => n + 3) (fun i => ?_) (fun i j _ _ h => ?_) (fun j _ => ?_)
  · match i with | 0 => rfl | 1 => rfl | 2 => rfl | n + 3 => rfl
  · match i, j, h with
    | 0, 0, _ => rfl
    | 1, 1, _ => rfl
    | 2, 2, _ => rfl
    | n + 3, m + 3, h => exact h
    | 0, 1, h => simp at h
    | 0, 2, h => simp at h
    | 1, 0, h => simp at h
    | 1, 2, h => simp at h
    | 2, 0, h => simp at h
    | 2, 1, h => simp at h
    | 0, n + 3, h => simp at h
    | 1, n + 3, h => simp at h
    | 2, n + 3, h => simp at h
    | n + 3, 0, h => simp at h
    | n + 3, 1, h => simp at h
    | n + 3, 2, h => simp at h
  · match j with | 0 => rfl | 1 => rfl | 2 => rfl | n + 3 => rfl
theorem reps_ints {ik : IntKind} {W : World} {base : Nat} {ok : Nat → Prop} (xs : List Int) : Reps ((Kd.int ik).M W base ok) (Kd.int ik).sz xs (xs.map (Value.int ik)) := Kd.reps_scalar xs
/-- A literal of ints. -/
theorem eLit (ik : IntKind) (M : Aside0 (Mem es w0 W l rows)) (N : Tmp) (e : TypeId) (xs : List Int)
    (h : ∀ A c w1, Aside0 (Mem es w0 w1 l (⟨Kd.int ik, e, .slice A xs.length c, xs⟩ :: rows)) → wpList P ops Q rest (a.put o.dst (.slice A xs.length c)) w1)
    (hd : o.dst = some N := by with_reducible rfl) (hgd : o.guard = none := by with_reducible rfl) (he : e ∈ es := by decide) (hm : xs.length ≤ 9223372036854775807 := by decide)
    (hr : (execOp a.eval o).run P W = .ok (.value (.slice (some ⟨W.heap.size, 0, none⟩) xs.length xs.length)) (W.alloc (.cells (xs.map (Value.int ik)).toArray e)) := by first | (go_simp; done) | (go_simp; rfl)) :
    wpList P ops Q (o :: rest) a W := by
  refine Kd.R_lit (Kd.int ik) (w0 := W) W.heap.size e hgd hd (ok := fun _ => True) (okp := fun _ => True) hr (reps_ints xs) (fun _ h => h) trivial (Below.refl _ _) (Nat.le_refl _) hm (fun v1 w1 hR hB hg _ => ?_)
  obtain ⟨A, c, rfl⟩ := Kd.R_slice hR
  exact h A c w1 ⟨M.out.row hB hR (fun q hq => by
    rcases List.mem_cons.1 hq with rfl | hq
    · exact he
    · cases hq)⟩
/-- 'append(s, x...)' on the first row. -/
theorem eApp {ik : IntKind} {bytes : Nat} {e : TypeId} {B : Option Addr} {n cB : Nat} {xs : List Int} (M : Aside0 (Mem es w0 W l (⟨Kd.int ik, e, .slice B n cB, xs⟩ :: rows))) (N : Tmp) {A : Option Addr} {m c : Nat} {ys : List Int} (HR : (Kd.int ik).C W A m ys) (hl : (xs.length + m) * bytes ≤ 140737488355328)
    (zs : List Int) (hz : xs ++ ys = zs) (h : ∀ B' c' w1, Aside0 (Mem es w0 w1 l (⟨Kd.int ik, e, .slice B' zs.length c', zs⟩ :: rows)) → wpList P ops Q rest (a.put o.dst (.slice B' zs.length c')) w1)
    {s x : Operand} {t : TypeId} (ho : o.op = .call { callee := .builtin .append, args := #[s, x], argTypes := #[t, t] } := by with_reducible rfl) (hd : o.dst = some N := by with_reducible rfl) (hgd : o.guard = none := by with_reducible rfl)
    (ht : P.underlying t = some (.slice e) := by kernel_rfl) (hinfo : (P.info? e).map (fun i => (i.zero, i.size, i.bytes)) = some (some (.int ik 0), 1, bytes) := by kernel_rfl)
    (hb0 : 0 < bytes := by decide) (hs : a.eval s = .slice B n cB := by rfl) (hx : a.eval x = .slice A m c := by rfl) : wpList P ops Q (o :: rest) a W := by
  have M0 := M.out
  subst hz
  refine Kd.R_append_row (Value.int ik) (0 : Int) (h1 := fun _ => rfl) (w0 := w0) w0.heap.size hgd s x t e (.int ik 0) bytes ho ht hinfo rfl hb0 (.slice B n cB) xs ys A m c (okOf (⟨Kd.int ik, e, .slice B n cB, xs⟩ :: rows) 0) hs hx
    (fun k hk => M0.okFresh 0 k hk) (M0.owns 0 _ rfl) HR M0.below M0.below.size hl (fun v1 w1 hR hB hg hat => ?_)
  obtain ⟨B', c', rfl⟩ := Kd.R_slice hR
  exact h B' c' w1 ⟨M0.written hB hg hR hat⟩
/-- The first row's address. -/
theorem Mem.addr {ik : IntKind} {e : TypeId} {B : Option Addr} {n c : Nat} {xs : List Int} (M : Mem es w0 W l (⟨Kd.int ik, e, .slice B n c, xs⟩ :: rows)) (h : 0 < xs.length) : ∃ g, B = some ⟨g, 0, Option.none⟩ := by
  obtain ⟨inner, ho⟩ := Kd.R_own M.own
  rcases ho.2 with ⟨he, h0⟩ | ⟨g, cap, cur, he, _⟩
  · omega
  · injection he with h1 _ _
    exact ⟨g, h1⟩
/-- An element of the first row is stored. -/
theorem eP {ik : IntKind} {e : TypeId} {g n c : Nat} {xs : List Int} (M : Aside0 (Mem es w0 W l (⟨Kd.int ik, e, .slice (some ⟨g, 0, none⟩) n c, xs⟩ :: rows))) (t : TypeId) (p : Tmp) (i : Nat) (u : Int) (hi : i < n)
    (h : ∀ w', Aside0 (Mem es w0 w' l (⟨Kd.int ik, e, .slice (some ⟨g, 0, none⟩) n c, xs.set i u⟩ :: rows)) → wpList P ops Q rest a w')
    {x : Operand} (ho : o.op = .store t (.tmp p) x := by with_reducible rfl) (hn : o.dst = none := by with_reducible rfl) (hgd : o.guard = none := by with_reducible rfl)
    (hx : a.eval (.tmp p) = .pointer (some ⟨g, i, none⟩) := by first | rfl | (go_simp; done) | (go_simp; rfl)) (hv : a.eval x = .int ik u := by first | rfl | (go_simp; done) | (go_simp; rfl)) (hs : (P.info? t).map (·.size) = some 1 := by kernel_rfl) :
    wpList P ops Q (o :: rest) a W := by
  have M0 := M.out
  have hR := M0.owns 0 _ rfl
  have hcell := Kd.R_celln (0 : Int) (enc := Value.int ik) (h1 := fun _ => rfl) hR (i : Int) (by omega) (by exact_mod_cast hi)
  rw [Int.toNat_natCast] at hcell
  have hput := Kd.R_putg (enc := Value.int ik) (h1 := fun _ => rfl) hR (i : Int) u
  rw [Int.toNat_natCast] at hput
  refine store_event (w1 := W.setCell ⟨g, i, none⟩ (.int ik u)) hgd ho hn ?_ (fun w' hw => ?_)
  · have hst : (store (⟨g, i, none⟩ : Addr) (.int ik u)).run P W = .ok () (W.setCell ⟨g, i, none⟩ (.int ik u)) := by
      rw [run_store P W _ _ _ rfl, hcell.1]
      simp [hcell.2]
    have hsv : (storeVar t ⟨g, i, none⟩ (.int ik u)).run P W = .ok () (W.setCell ⟨g, i, none⟩ (.int ik u)) := by
      cases hq : P.info? t with
      | none => simp [hq] at hs
      | some z =>
        have hz : z.size = 1 := by simpa [hq] using hs
        have ha : (⟨g, i, none⟩ : Addr).add 0 = ⟨g, i, none⟩ := by unfold Addr.add; simp
        have hs' : (store ((⟨g, i, none⟩ : Addr).add 0) (.int ik u)).run P W = .ok () (W.setCell ⟨g, i, none⟩ (.int ik u)) := by rw [ha]; exact hst
        simp [storeVar, sizeOf, typeInfo, hq, Value.cells, hz, storeCells, hs']
    unfold execOp
    simp only [ho, hx, hv, Instr.storeAt, Instr.sureAddr, Sem.run_bind, Sem.run_pure, Result.andThen_ok, hsv]
  · subst hw
    refine h _ ⟨M0.written ?_ hput.2 hput.1 (.inl rfl)⟩
    exact below_set M0.below (Kd.R_base M0.own g rfl)
/-- What a row begins with. -/
theorem C_prefix {ik : IntKind} {e base : Nat} {ok : Nat → Prop} {B : Option Addr} {n cB : Nat} {xs ys : List Int} (h : Kd.R (Kd.int ik) e W base ok (.slice B n cB) (xs ++ ys)) : Kd.C (Kd.int ik) W B xs.length xs ∧ xs.length ≤ cB := by
  have h1 := Kd.R_take h (m := xs.length) (by simp)
  rw [List.take_left] at h1
  have h2 := Kd.R_reads' h1
  exact ⟨h2.2.2, h2.2.1⟩
end
end Go.Proofs.YtonnlkpmfmknlaaDoor.Hctx
end

section
/-
  script.number, walked.
-/
set_option linter.unusedVariables false
set_option linter.unusedSimpArgs false
namespace Go.Proofs.YtonnlkpmfmknlaaDoor.Hof
open Go.RowKit Go.Shelf Go.Proofs.YtonnlkpmfmknlaaDoorW.PrintWords Go.Proofs.YtonnlkpmfmknlaaDoorW.PrintLast Go.Proofs.YtonnlkpmfmknlaaDoorW.PrintMore Hctx
/-- Bytes as a string. -/
@[reducible] def sB (l : List UInt8) : ByteArray := ⟨l.toArray⟩
theorem sB_to (s : ByteArray) : sB s.data.toList = s := by apply ByteArray.ext; simp [sB]
theorem trim_calls (l : List UInt8) (hl : l.length ≤ 262144) (w : World) :
    Calls Tryd.prog 71 #[.string (sB l), .string ⟨#[48, 49, 50, 51, 52, 53, 54, 55, 56, 57]⟩] w fun e w' => e = .returned (.string (sB (Lib.trimS l Q.digs))) ∧ Below w.heap.size w w' := by
  have h := Tryd.strings_Trim_set (sB l) ⟨#[48, 49, 50, 51, 52, 53, 54, 55, 56, 57]⟩ w (by show (l.toArray).size ≤ _; simp; omega) (by decide) (Go.Proofs.ascii_of_all (l := [48, 49, 50, 51, 52, 53, 54, 55, 56, 57]) (by decide))
  exact h
theorem trimP_len (l : List UInt8) : (Lib.trimPrefix l [45]).length ≤ l.length := by
  unfold Lib.trimPrefix
  split
  · rw [List.length_drop]; omega
  · exact Nat.le_refl _

set_option maxHeartbeats 4000000 in
set_option maxRecDepth 100000 in
theorem number_calls (s : ByteArray) (hs : s.size ≤ 262144) (w : World) :
    Calls Tryd.prog 54 #[.string s] w fun e w' => e = .returned (.bool (Q.numB s.data.toList)) ∧ Below w.heap.size w w' := by
  have HN : RowKit.Hid (Q.numB s.data.toList = (!(Lib.trimPrefix s.data.toList [45]).isEmpty && (Lib.trimPrefix s.data.toList [45]).all Q.dig && ((Lib.trimPrefix s.data.toList [45]).head? != some 48 || s.data.toList == [48]))) := Lib.hid rfl
  have HP := Lib.hid (fun W => Tryd.strings_TrimPrefix s ⟨#[45]⟩ W)
  have hlen := trimP_len s.data.toList
  have hz : s.data.toList.length = s.size := Array.length_toList
  have HT := Lib.hid (fun W => trim_calls (Lib.trimPrefix s.data.toList [45]) (by omega) W)
  clear hlen hz
  revert HN HP HT
  show RowKit.Hid _ → RowKit.Hid (∀ W, Calls Tryd.prog 70 #[.string s, .string ⟨#[45]⟩] W fun e w' => e = .returned (.string (sB (Lib.trimPrefix s.data.toList [45]))) ∧ w' = W) → _
  generalize Lib.trimPrefix s.data.toList [45] = d
  intro HN HP HT
  go_enter Tryd.func54, Tryd.ntmps54
  go_wp2_with fail
  refine (HP.out _).mono ?_
  rintro e w1 ⟨rfl, rfl⟩
  cases d with
  | nil =>
    go_wp2
    go_ret
    exact ⟨by rw [HN.out]; rfl, Below.refl _ _⟩
  | cons c r =>
    have HA := Lib.hid (Q.trim_nil (c :: r))
    revert HA HT
    generalize Lib.trimS (c :: r) Q.digs = x
    intro HT HA
    go_wp2_with fail
    refine (HT.out _).mono ?_
    rintro e w2 ⟨rfl, hb⟩
    have HB := Aside0.mk hb
    clear hb
    cases x with
    | cons a b =>
      have hall : (c :: r).all Q.dig = false := by
        cases hq : (c :: r).all Q.dig
        · rfl
        · exact absurd (HA.out.2 hq) (by simp)
      have HV := Lib.hid (show Q.numB s.data.toList = false by rw [HN.out, hall]; simp)
      clear hall
      go_wp2
      go_ret
      exact ⟨by (rw [HV.out]; try rfl), HB.out⟩
    | nil =>
      have HV := Lib.hid (show Q.numB s.data.toList = (((c :: r).head? != some 48) || s.data.toList == [48]) by rw [HN.out, HA.out.1 rfl]; simp)
      by_cases h48 : c = 48
      · subst h48
        by_cases hs0 : s.data.toList = [48]
        · have e1 : (s.toList == [48]) = true := by rw [ByteArray.toList_eq, hs0]; rfl
          have e2 : s.toList = [48] := by rw [ByteArray.toList_eq]; exact hs0
          have HV2 := Lib.hid (show Q.numB s.data.toList = true by rw [HV.out, hs0]; rfl)
          clear hs0
          go_wp2
          go_ret
          exact ⟨by (rw [HV2.out]; try rfl), HB.out⟩
        · have e1 : (s.toList == [48]) = false := by rw [ByteArray.toList_eq]; exact beq_eq_false_iff_ne.mpr hs0
          have e2 : (s.toList = [48]) = False := eq_false (by rw [ByteArray.toList_eq]; exact hs0)
          have HV2 := Lib.hid (show Q.numB s.data.toList = false by rw [HV.out, beq_eq_false_iff_ne.mpr hs0]; rfl)
          clear hs0
          go_wp2
          go_ret
          exact ⟨by (rw [HV2.out]; try rfl), HB.out⟩
      · have e1 : ((c.toNat : Int) != 48) = true := bne_iff_ne.mpr (fun e => h48 (UInt8.toNat_inj.1 (by have e3 : (48 : UInt8).toNat = 48 := rfl; omega)))
        have e2 : ((c.toNat : Int) == 48) = false := beq_eq_false_iff_ne.mpr (fun e => h48 (UInt8.toNat_inj.1 (by have e3 : (48 : UInt8).toNat = 48 := rfl; omega)))
        have hz0 : 0 < (sB (c :: r)).size := by show 0 < ((c :: r).toArray).size; simp
        have e3 : ((((sB (c :: r))[0]'hz0).toNat : Int) != 48) = true := e1
        have HV2 := Lib.hid (show Q.numB s.data.toList = true by rw [HV.out]; simp [h48])
        clear h48
        go_wp2
        go_ret
        exact ⟨by (rw [HV2.out]; try rfl), HB.out⟩
end Go.Proofs.YtonnlkpmfmknlaaDoor.Hof
end

section
/-
  A call's own memory with a set of strings (a map to bools) beside it: the record and its events.
-/
set_option linter.unusedVariables false
set_option linter.unusedSimpArgs false
namespace Go.Proofs.YtonnlkpmfmknlaaDoor.Hctx
open Go.RowKit Go.Proofs.YtonnlkpmfmknlaaDoorW.PrintWords Go.Proofs.YtonnlkpmfmknlaaDoorW.PrintLast Go.Proofs.YtonnlkpmfmknlaaDoorW.PrintMore
/-- Block g is a set of at most n strings: those of which had says yes. -/
def HadM (P : Program) (W : World) (g n : Nat) (had : List UInt8 → Bool) : Prop :=
  ∃ D : DataW Unit, W.ownsMap P 9 (plainElem P 4) g n D ∧ ∀ key : List UInt8, D.atKey (.string key) (.lit (.bool false)) = .lit (.bool (had key))
theorem own_heap {P : Program} {W W1 : World} {g n : Nat} {had : List UInt8 → Bool} (h : HadM P W g n had) (he : W1.heap[g]? = W.heap[g]?) : HadM P W1 g n had := by
  obtain ⟨D, ⟨es, ck, h1, h2, h3, h4⟩, h5⟩ := h
  exact ⟨D, ⟨es, ck, he.trans h1, h2, h3, h4⟩, h5⟩
theorem HadM.blk {P : Program} {W : World} {g n : Nat} {had : List UInt8 → Bool} (h : HadM P W g n had) : ∃ es ck, W.heap[g]? = some (.map es ck) := by
  obtain ⟨D, ⟨es, ck, h1, _⟩, _⟩ := h
  exact ⟨es, ck, h1⟩
theorem HadM.lt {P : Program} {W : World} {g n : Nat} {had : List UInt8 → Bool} (h : HadM P W g n had) : g < W.heap.size := by
  obtain ⟨es, ck, h1⟩ := h.blk
  rcases Nat.lt_or_ge g W.heap.size with h2 | h2
  · exact h2
  · rw [Array.getElem?_eq_none h2] at h1; cases h1
/-- The memory of a call's own, and a set. -/
structure MemO (P : Program) (es : List TypeId) (w0 W : World) (l : List (Nat × Array Value × TypeId)) (rows : List Row) (g n : Nat) (had : List UInt8 → Bool) : Prop where
  mem : Mem es w0 W l rows
  set : HadM P W g n had
  ge : w0.heap.size ≤ g
section
variable {P : Program} {es : List TypeId} {w0 W W1 : World} {l : List (Nat × Array Value × TypeId)} {rows : List Row} {g n : Nat} {had : List UInt8 → Bool}
theorem MemO.call (M : MemO P es w0 W l rows g n had) (hb : Below W.heap.size W W1) : MemO P es w0 W1 l rows g n had :=
  ⟨M.mem.call hb, own_heap M.set (hb.block g M.set.lt), M.ge⟩
theorem MemO.drewN (M : MemO P es w0 W l rows g n had) (k : Nat) : MemO P es w0 (W.drewN k) l rows g n had := M.call (pw_below_drewN (Below.refl _ _) k)
theorem MemO.forget (M : MemO P es w0 W l rows g n had) (k : Nat) : MemO P es w0 W (l.take k) rows g n had := ⟨M.mem.forget k, M.set, M.ge⟩
theorem MemO.ne_box (M : MemO P es w0 W l rows g n had) (i : Nat) {b : Nat} {cs : Array Value} {t : TypeId} (h : l[i]? = some (b, cs, t)) : g ≠ b := by
  rintro rfl
  obtain ⟨e, c, h1⟩ := M.set.blk
  rw [M.mem.at i h] at h1
  cases h1
theorem MemO.ne_row (M : MemO P es w0 W l rows g n had) (i : Nat) {r : Row} (h : rows[i]? = some r) : some g ≠ r.v.ownBlock := by
  intro he
  obtain ⟨cells, hc⟩ := Kd.R_typed (M.mem.owns i _ h) g he.symm
  obtain ⟨e, c, h1⟩ := M.set.blk
  rw [hc] at h1
  cases h1
/-- What was written is no map's block. -/
theorem MemO.other (M : MemO P es w0 W l rows g n had) {l' : List (Nat × Array Value × TypeId)} {rows' : List Row} (M1 : Mem es w0 W1 l' rows') (he : W1.heap[g]? = W.heap[g]?) : MemO P es w0 W1 l' rows' g n had := ⟨M1, own_heap M.set he, M.ge⟩
theorem MemO.rowsBy {rows' : List Row} (M : MemO P es w0 W l rows g n had) (h : Mem es w0 W l rows → Mem es w0 W l rows') : MemO P es w0 W l rows' g n had := ⟨h M.mem, M.set, M.ge⟩
/-- The set is asked. -/
theorem MemO.look (M : MemO P es w0 W l rows g n had) (hu4 : P.underlying 4 = some .bool) (hu9 : P.underlying 9 = some .string) {t : TypeId} (ht : P.underlying t = some (.map 9 4)) (s : ByteArray) (hs : s.size ≤ maxLen) (hz : (zeroValue 4).run P W = .ok (.bool false) W) :
    (Instr.lookup t (.map (some g)) (.string s) false).run P W = .ok (.bool (had s.data.toList)) W := by
  obtain ⟨D, hown, hat⟩ := M.set
  obtain ⟨v, ps, hrun, hv⟩ := hown.lookup (Maps.string_keyed hu9) ht hz (plainElem_bool hu4 false) (WideMaps.keyOf_string_mk hu9 hs)
  rw [hat] at hv
  rw [hrun]
  unfold plainElem at hv
  rw [hu4] at hv
  cases v with
  | bool b =>
    simp at hv
    rw [hv.1]
  | _ => simp at hv
/-- Another block than a set's was written: nothing of the call's own memory. -/
theorem Mem.beside (M : Mem es w0 W l rows) {b : Nat} (hg : W.grownBy W1 (some b)) (hb : w0.heap.size ≤ b) (hn : ∀ cs t f, W.heap[b]? ≠ some (.cells cs t f)) : Mem es w0 W1 l rows := by
  refine ⟨M.below.grown hg M.below.size (fun k hk => by injection hk with hk; omega), fun x hx => ?_, M.apart, M.typ, fun i r hr => ?_⟩
  · have hx' := M.blk x hx
    refine ⟨blk_grown hx'.1 hg (fun he => ?_), hx'.2⟩
    injection he with he
    rw [he] at hx'
    exact hn _ _ _ hx'.1
  · refine Kd.R_mono (Kd.R_grown (Kd.R_bound (M.owns i r hr)) hg (fun k hk he => ?_)) (fun k hk => hk.1)
    obtain ⟨_, _, _, q, hq, cells, hc⟩ := hk
    injection he with he
    rw [he] at hc
    exact hn _ _ _ hc
/-- One more in the set. -/
theorem MemO.put (M : MemO P es w0 W l rows g n had) (hu4 : P.underlying 4 = some .bool) (hu9 : P.underlying 9 = some .string) {t : TypeId} (ht : P.underlying t = some (.map 9 4)) (s : ByteArray) (hs : s.size ≤ maxLen) (hn : n < maxLen) :
    ∃ W1, (Instr.mapUpdate t (.map (some g)) (.string s) (.bool true)).run P W = .ok () W1 ∧ MemO P es w0 W1 l rows g (n + 1) (fun k => k == s.data.toList || had k) := by
  obtain ⟨D, hown, hat⟩ := M.set
  obtain ⟨W1, hrun, hown1, hg⟩ := hown.update (Maps.string_keyed hu9) ht hn (WideMaps.keyOf_string_mk hu9 hs) (plainElem_bool hu4 true)
  have hmap : Maps.IsMap D := by
    obtain ⟨es, ck, _, _, _, rfl⟩ := hown
    exact ⟨_, rfl⟩
  obtain ⟨e1, c1, hblk⟩ := (M.set).blk
  refine ⟨W1, hrun, M.mem.beside hg M.ge (fun cs t f h => by rw [hblk] at h; cases h), ⟨_, hown1, fun key => ?_⟩, M.ge⟩
  by_cases hk : key = s.data.toList
  · subst hk
    rw [Maps.atKey_put_same hmap ((Maps.string_keyed hu9).key (WideMaps.keyOf_string_mk hu9 hs))]
    simp
  · rw [Maps.atKey_put_other (by simpa using hk), hat]
    simp [hk]
end
section
variable {P : Program} {ops : Array Oper} {rest : List Oper} {o : Oper} {a : Act} {Q : Exit → Act → World → Prop} {es : List TypeId} {w0 W : World} {l : List (Nat × Array Value × TypeId)} {rows : List Row} {g n : Nat} {had : List UInt8 → Bool}
/-- A cell of a box is stored. -/
theorem oS (M : Aside0 (MemO P es w0 W l rows g n had)) (t : TypeId) (p : Tmp) (i j : Nat) (u : Value) (new : Array Value) {b : Nat} {cs : Array Value} {tb : TypeId} {x : Operand}
    (h : ∀ w', Aside0 (MemO P es w0 w' (l.set i (b, new, tb)) rows g n had) → wpList P ops Q rest a w')
    (hi : l[i]? = some (b, cs, tb)) (hj : cs[j]?.isSome = true) (h1 : u.oneCell' = true) (hnew : cs.setIfInBounds j u = new)
    (ho : o.op = .store t (.tmp p) x := by with_reducible rfl) (hn : o.dst = none := by with_reducible rfl) (hgd : o.guard = none := by with_reducible rfl)
    (hx : a.eval (.tmp p) = .pointer (some ⟨b, j, none⟩) := by first | rfl | (go_simp; done) | (go_simp; rfl)) (hv : a.eval x = u := by first | rfl | (go_simp; done) | (go_simp; rfl))
    (hs : (P.info? t).map (·.size) = some 1 := by kernel_rfl) :
    wpList P ops Q (o :: rest) a W :=
  cell_event hgd ho hn b j cs u hx hv (M.out.mem.at i hi) hj hs h1 fun w' hn' hk hb => h w' ⟨M.out.other (Mem.keep M.out.mem i hi (hnew ▸ hn') hk (hb w0 M.out.mem.below (M.out.mem.ge i hi))) (hk.2 g M.out.set.lt (M.out.ne_box i hi) (by simp))⟩
/-- 'append(s, x)' of one scalar on the first row, its slice just made. -/
theorem oA {ik : IntKind} {e : TypeId} {v : Value} {xs : List Int} (M : Aside0 (MemO P es w0 W l (⟨Kd.int ik, e, v, xs⟩ :: rows) g n had)) (N : Tmp) (p : Int) (bytes : Nat) (hl : (xs.length + 1) * bytes ≤ 140737488355328)
    (h : ∀ v' w1, Aside0 (MemO P es w0 w1 l (⟨Kd.int ik, e, v', xs ++ [p]⟩ :: rows) g n had) → wpList P ops Q rest (a.put o.dst v') w1)
    {s x : Operand} {t : TypeId} (ho : o.op = .call { callee := .builtin .append, args := #[s, x], argTypes := #[t, t] } := by with_reducible rfl) (hd : o.dst = some N := by with_reducible rfl) (hgd : o.guard = none := by with_reducible rfl)
    (ht : P.underlying t = some (.slice e) := by kernel_rfl) (hinfo : (P.info? e).map (fun i => (i.zero, i.size, i.bytes)) = some (some (.int ik 0), 1, bytes) := by kernel_rfl)
    (hb0 : 0 < bytes := by decide) (hs : a.eval s = v := by rfl) (hx : a.eval x = .slice (some ⟨W.heap.size, 0, none⟩) 1 1 := by rfl) : wpList P ops Q (o :: rest) a (W.alloc (.cells #[.int ik p] e)) := by
  have M0 := M.out.mem
  refine Kd.R_append (Kd.int ik) (w0 := w0) w0.heap.size hgd s x t e (.int ik 0) bytes ho ht hinfo rfl (by show 0 < 1; decide) hb0 v xs p [.int ik p] (okOf (⟨Kd.int ik, e, v, xs⟩ :: rows) 0) (fun _ => False) hs hx rfl (fun _ hk => hk.elim)
    (fun k hk => M0.okFresh 0 k hk) (M0.owns 0 _ rfl) M0.below M0.below.size hl (fun v1 w1 hR hB hg hat => ?_)
  exact h v1 w1 ⟨M.out.other (M0.written hB hg hR hat) (hg.block g M.out.set.lt (M.out.ne_row 0 rfl))⟩
/-- A string is put into the set. -/
theorem oM (M : Aside0 (MemO P es w0 W l rows g n had)) (hu4 : P.underlying 4 = some .bool) (hu9 : P.underlying 9 = some .string) {t : TypeId} (ht : P.underlying t = some (.map 9 4)) (s : ByteArray) (hs : s.size ≤ maxLen) (hn : n < maxLen)
    (h : ∀ w', Aside0 (MemO P es w0 w' l rows g (n + 1) (fun k => k == s.data.toList || had k)) → wpList P ops Q rest (a.put o.dst undef) w')
    {m x v : Operand} (ho : o.op = .mapUpdate t m x v := by with_reducible rfl) (hgd : o.guard = none := by with_reducible rfl)
    (hm : a.eval m = .map (some g) := by first | rfl | (go_simp; done) | (go_simp; rfl)) (hx : a.eval x = .string s := by first | rfl | (go_simp; done) | (go_simp; rfl)) (hv : a.eval v = .bool true := by first | rfl | (go_simp; done) | (go_simp; rfl)) :
    wpList P ops Q (o :: rest) a W := by
  refine wpList_plain hgd fun K' hK' => ?_
  obtain ⟨w', hrun, M1⟩ := M.out.put hu4 hu9 ht s hs hn
  unfold Oper.wp
  simp [execOp, ho, hm, hx, hv, hrun, Result.andThen]
  exact hK' _ _ (h w' ⟨M1⟩)
end
end Go.Proofs.YtonnlkpmfmknlaaDoor.Hctx
end

section
/-
  What script.Parse calls in the library, in short words; the world's standing facts.
-/
set_option linter.unusedVariables false
set_option linter.unusedSimpArgs false
namespace Go.Proofs.YtonnlkpmfmknlaaDoor.Hof
open Go.RowKit Go.Shelf Go.Proofs.YtonnlkpmfmknlaaDoorW.PrintWords Go.Proofs.YtonnlkpmfmknlaaDoorW.PrintLast Go.Proofs.YtonnlkpmfmknlaaDoorW.PrintMore Hctx
/-- What stands in the listed variables. -/
structure Std (w : World) : Prop where
  size : 7 < w.heap.size
  max : ∃ m, w.cell? ⟨1, 0, none⟩ = some (.int .i64 m)
  esyn : ∃ te pe, w.cell? ⟨2, 0, none⟩ = some (.iface te pe)
  erng : ∃ te pe, w.cell? ⟨3, 0, none⟩ = some (.iface te pe)
theorem Std.below {w W : World} (h : Std w) (hb : Below w.heap.size w W) : Std W := by
  have hc : ∀ a : Addr, a.block ≤ 7 → W.cell? a = w.cell? a := fun a ha => hb.cell (Nat.lt_of_le_of_lt ha h.size)
  refine ⟨Nat.lt_of_lt_of_le h.size hb.size, ?_, ?_, ?_⟩
  · obtain ⟨m, hm⟩ := h.max; exact ⟨m, (hc _ (by decide)).trans hm⟩
  · obtain ⟨m, p, hm⟩ := h.esyn; exact ⟨m, p, (hc _ (by decide)).trans hm⟩
  · obtain ⟨m, p, hm⟩ := h.erng; exact ⟨m, p, (hc _ (by decide)).trans hm⟩
theorem below_bw {w w' : World} (h : w' = w ∨ ∃ t, w' = Lib.bytesWorld w 5 t) : Below w.heap.size w w' := by
  rcases h with rfl | ⟨t, rfl⟩
  · exact Below.refl _ _
  · exact Lib.bytesWorld_below _ _ _
def I64 (n : Int) : Prop := -9223372036854775808 ≤ n ∧ n ≤ 9223372036854775807
section
variable {w : World}
theorem uint_ok (S : Std w) (s : ByteArray) (hs : s.size ≤ 262144) (u : Nat) (h : Lib.parseUintB 32 s.data.toList = .ok u) :
    Calls Tryd.prog 56 #[.string s, .int .i64 10, .int .i64 32] w fun e w' => e = .returned (.tuple #[.int .u64 u, .nilIface]) ∧ Below w.heap.size w w' :=
  (Tryd.strconv_ParseUint_10_at32_ok s (by omega) u h w).mono fun e w' ⟨he, hw⟩ => ⟨he, below_bw (hw.imp id fun h => ⟨s, h⟩)⟩
theorem uint_bad (S : Std w) (s : ByteArray) (hs : s.size ≤ 262144) (h : ¬ ∃ u, Lib.parseUintB 32 s.data.toList = .ok u) :
    Calls Tryd.prog 56 #[.string s, .int .i64 10, .int .i64 32] w fun e w' => ∃ (u : Int) (te : TypeId) (pe : Value), e = .returned (.tuple #[.int .u64 u, .iface te pe]) ∧ Below w.heap.size w w' := by
  rcases hc : Lib.parseUintB 32 s.data.toList with u | _ | _
  · exact absurd ⟨u, hc⟩ h
  · obtain ⟨te, pe, hv⟩ := S.esyn
    exact (Tryd.strconv_ParseUint_10_at32_syntax s (by omega) hc _ w hv (.inr ⟨te, pe, rfl⟩)).mono fun e w' ⟨N, he, _, _, hb⟩ => ⟨_, _, _, he, hb⟩
  · obtain ⟨te, pe, hv⟩ := S.erng
    exact (Tryd.strconv_ParseUint_10_at32_range s (by omega) hc _ w hv (.inr ⟨te, pe, rfl⟩)).mono fun e w' ⟨N, he, _, _, hb⟩ => ⟨_, _, _, he, hb⟩
theorem atoi_ok (S : Std w) (s : ByteArray) (hs : s.size ≤ 262144) (v : Int) (h : Lib.atoiAll s.data.toList = .ok v) :
    Calls Tryd.prog 55 #[.string s] w fun e w' => e = .returned (.tuple #[.int .i64 v, .nilIface]) ∧ Below w.heap.size w w' :=
  (Tryd.strconv_Atoi_ok s (by omega) v h w).mono fun e w' ⟨he, hw⟩ => ⟨he, below_bw hw⟩
theorem atoi_bad (S : Std w) (s : ByteArray) (hs : s.size ≤ 262144) (h : ¬ ∃ u, Lib.atoiAll s.data.toList = .ok u) :
    Calls Tryd.prog 55 #[.string s] w fun e w' => ∃ (u : Int) (te : TypeId) (pe : Value), e = .returned (.tuple #[.int .i64 u, .iface te pe]) ∧ Below w.heap.size w w' := by
  rcases hc : Lib.atoiAll s.data.toList with u | _ | _
  · exact absurd ⟨u, hc⟩ h
  · obtain ⟨te, pe, hv⟩ := S.esyn
    exact (Tryd.strconv_Atoi_syntax s (by omega) hc _ w hv (.inr ⟨te, pe, rfl⟩)).mono fun e w' ⟨N, he, _, _, hb⟩ => ⟨_, _, _, he, hb⟩
  · obtain ⟨te, pe, hv⟩ := S.erng
    exact (Tryd.strconv_Atoi_range s (by omega) hc _ w hv (.inr ⟨te, pe, rfl⟩)).mono fun e w' ⟨N, he, _, _, hb⟩ => ⟨_, _, _, he, hb⟩
theorem pint_ok (S : Std w) (s : ByteArray) (hs : s.size ≤ 262144) (v : Int) (h : Lib.parseIntB 64 s.data.toList = .ok v) :
    Calls Tryd.prog 57 #[.string s, .int .i64 10, .int .i64 64] w fun e w' => e = .returned (.tuple #[.int .i64 v, .nilIface]) ∧ Below w.heap.size w w' :=
  (Tryd.strconv_ParseInt_10_at64_ok s (by omega) v h w).mono fun e w' ⟨he, hw⟩ => ⟨he, below_bw hw⟩
theorem pint_bad (S : Std w) (s : ByteArray) (hs : s.size ≤ 262144) (h : ¬ ∃ u, Lib.parseIntB 64 s.data.toList = .ok u) :
    Calls Tryd.prog 57 #[.string s, .int .i64 10, .int .i64 64] w fun e w' => ∃ (u : Int) (te : TypeId) (pe : Value), e = .returned (.tuple #[.int .i64 u, .iface te pe]) ∧ Below w.heap.size w w' := by
  rcases hc : Lib.parseIntB 64 s.data.toList with u | _ | _
  · exact absurd ⟨u, hc⟩ h
  · obtain ⟨te, pe, hv⟩ := S.esyn
    exact (Tryd.strconv_ParseInt_10_at64_syntax s (by omega) hc _ w hv (.inr ⟨te, pe, rfl⟩)).mono fun e w' ⟨N, he, _, _, hb⟩ => ⟨_, _, _, he, hb⟩
  · obtain ⟨te, pe, hv⟩ := S.erng
    exact (Tryd.strconv_ParseInt_10_at64_range s (by omega) hc _ w hv (.inr ⟨te, pe, rfl⟩)).mono fun e w' ⟨N, he, _, _, hb⟩ => ⟨_, _, _, he, hb⟩
/-- strings.Split by one byte: the pieces, in a new block. -/
def pcs (s : ByteArray) (c : UInt8) : List ByteArray := Lib.splitB ⟨#[c]⟩ 0 (Lib.countB s ⟨#[c]⟩) s
theorem pcs_len (s : ByteArray) (c : UInt8) : (pcs s c).length = Lib.countB s ⟨#[c]⟩ + 1 := Lib.splitB_all ⟨#[c]⟩ (by simp [ByteArray.size]) 0 _ s rfl
theorem split_calls (S : Std w) (s : ByteArray) (c : UInt8) (hs : s.size ≤ 262144) :
    Calls Tryd.prog 29 #[.string s, .string ⟨#[c]⟩] w fun e w' => e = .returned (.slice (some ⟨w.heap.size, 0, none⟩) (pcs s c).length (pcs s c).length) ∧ w' = w.alloc (.cells ((pcs s c).map Value.string).toArray 9) := by
  obtain ⟨m, hm⟩ := S.max
  rw [pcs_len]
  exact Tryd.strings_Split s ⟨#[c]⟩ m w (by omega) hm (by simp [ByteArray.size])
end
theorem splitB_size (sep : ByteArray) : ∀ (k : Nat) (s : ByteArray), ∀ p ∈ Lib.splitB sep 0 k s, p.size ≤ s.size
  | 0, s, p, h => by rw [Lib.splitB_zero, List.mem_singleton] at h; rw [h]; exact Nat.le_refl _
  | k + 1, s, p, h => by
    rw [Lib.splitB] at h
    split at h
    · rw [List.mem_singleton] at h; rw [h]; exact Nat.le_refl _
    · rcases List.mem_cons.1 h with rfl | h
      · simp only [ByteArray.size_extract]; omega
      · have := splitB_size sep k _ p h
        simp only [ByteArray.size_extract] at this; omega
theorem pcs_size {s : ByteArray} {c : UInt8} {p : ByteArray} (h : p ∈ pcs s c) : p.size ≤ s.size := splitB_size _ _ _ p h
end Go.Proofs.YtonnlkpmfmknlaaDoor.Hof
end

section
/-
  The rows of a script's choices as a call's own memory: even places are the steals, odd ones the inputs.
-/
set_option linter.unusedVariables false
set_option linter.unusedSimpArgs false
namespace Go.Proofs.YtonnlkpmfmknlaaDoor.Hctx
open Go.RowKit Go.Proofs.YtonnlkpmfmknlaaDoorW.PrintWords Go.Proofs.YtonnlkpmfmknlaaDoorW.PrintLast Go.Proofs.YtonnlkpmfmknlaaDoorW.PrintMore
def mkR (b : Bool) (p : Value × List Int) : Row := if b then ⟨Kd.int .u32, 36, p.1, p.2⟩ else ⟨Kd.int .i64, 2, p.1, p.2⟩
theorem mkR_v (b : Bool) (p : Value × List Int) : (mkR b p).v = p.1 := by cases b <;> rfl
def rowsOf : Bool → List (Value × List Int) → List Row
  | _, [] => []
  | b, p :: t => mkR b p :: rowsOf (!b) t
def par (b : Bool) (i : Nat) : Bool := if i % 2 = 0 then b else !b
theorem par_succ (b : Bool) (i : Nat) : par b (i + 1) = par (!b) i := by
  unfold par
  rcases Nat.mod_two_eq_zero_or_one i with h | h
  · rw [if_neg (by omega), if_pos h]
  · rw [if_pos (by omega), if_neg (by omega)]; simp
theorem rowsOf_len : ∀ (L : List (Value × List Int)) (b : Bool), (rowsOf b L).length = L.length
  | [], _ => rfl
  | p :: t, b => by rw [rowsOf, List.length_cons, rowsOf_len t, List.length_cons]
theorem rowsOf_get : ∀ (L : List (Value × List Int)) (b : Bool) (i : Nat), (rowsOf b L)[i]? = (L[i]?).map (mkR (par b i))
  | [], _, i => by simp [rowsOf]
  | p :: t, b, 0 => rfl
  | p :: t, b, i + 1 => by
    rw [rowsOf, List.getElem?_cons_succ, List.getElem?_cons_succ, rowsOf_get t (!b) i, par_succ]
theorem rowsOf_set : ∀ (L : List (Value × List Int)) (b : Bool) (i : Nat) (p : Value × List Int), rowsOf b (L.set i p) = (rowsOf b L).set i (mkR (par b i) p)
  | [], _, i, _ => by simp [rowsOf]
  | q :: t, b, 0, p => rfl
  | q :: t, b, i + 1, p => by
    rw [List.set_cons_succ, rowsOf, rowsOf, List.set_cons_succ, rowsOf_set t (!b) i p, par_succ]
section
variable {P : Program} {es : List TypeId} {w0 W : World} {l : List (Nat × Array Value × TypeId)} {rows : List Row} {g n : Nat} {had : List UInt8 → Bool}
/-- A row to the front. -/
theorem Mem.front (M : Mem es w0 W l rows) (i : Nat) {r : Row} (h : rows[i]? = some r) : Mem es w0 W l (r :: rows.eraseIdx i) := by
  have hi : i < rows.length := (List.getElem?_eq_some_iff.1 h).1
  refine M.rowsBy (fun k => match k with | 0 => i | k + 1 => if k < i then k else k + 1) (fun k => if k = i then 0 else if k < i then k + 1 else k) (fun k => ?_) (fun a b ha hb hab => ?_) (fun k hk => ?_)
  · cases k with
    | zero => exact h.symm
    | succ k =>
      rw [List.getElem?_cons_succ, List.getElem?_eraseIdx]
      show _ = rows[if k < i then k else k + 1]?
      split <;> rfl
  · cases a with
    | zero =>
      cases b with
      | zero => rfl
      | succ b =>
        dsimp only at hab
        split at hab <;> omega
    | succ a =>
      cases b with
      | zero =>
        dsimp only at hab
        split at hab <;> omega
      | succ b =>
        dsimp only at hab
        split at hab <;> split at hab <;> omega
  · try dsimp only
    by_cases h1 : k = i
    · rw [if_pos h1]; exact h1.symm
    · rw [if_neg h1]
      by_cases h2 : k < i
      · rw [if_pos h2]
        show (if k < i then k else k + 1) = k
        rw [if_pos h2]
      · rw [if_neg h2]
        obtain ⟨j, rfl⟩ : ∃ j, k = j + 1 := ⟨k - 1, by omega⟩
        show (if j < i then j else j + 1) = j + 1
        rw [if_neg (by omega)]
/-- .. and back to its place. -/
theorem Mem.back {r : Row} (i : Nat) (hi : i < rows.length) (M : Mem es w0 W l (r :: rows.eraseIdx i)) : Mem es w0 W l (rows.set i r) := by
  refine M.rowsBy (fun k => if k = i then 0 else if k < i then k + 1 else k) (fun k => match k with | 0 => i | k + 1 => if k < i then k else k + 1) (fun k => ?_) (fun a b ha hb hab => ?_) (fun k hk => ?_)
  · rw [List.getElem?_set]
    by_cases h1 : i = k
    · subst h1
      rw [if_pos rfl, if_pos hi]
      show _ = (r :: rows.eraseIdx i)[if i = i then 0 else _]?
      rw [if_pos rfl]; rfl
    · rw [if_neg h1]
      show rows[k]? = (r :: rows.eraseIdx i)[if k = i then 0 else if k < i then k + 1 else k]?
      rw [if_neg (Ne.symm h1)]
      by_cases h2 : k < i
      · rw [if_pos h2, List.getElem?_cons_succ, List.getElem?_eraseIdx, if_pos h2]
      · rw [if_neg h2]
        obtain ⟨j, rfl⟩ : ∃ j, k = j + 1 := ⟨k - 1, by omega⟩
        rw [List.getElem?_cons_succ, List.getElem?_eraseIdx, if_neg (by omega)]
  · try dsimp only at hab
    split at hab <;> split at hab <;> (try split at hab) <;> (try split at hab) <;> omega
  · cases k with
    | zero => show (if i = i then 0 else _) = 0; rw [if_pos rfl]
    | succ k =>
      show (if (if k < i then k else k + 1) = i then 0 else if (if k < i then k else k + 1) < i then (if k < i then k else k + 1) + 1 else (if k < i then k else k + 1)) = k + 1
      by_cases h2 : k < i
      · simp only [if_pos h2]; rw [if_neg (by omega)]
      · simp only [if_neg h2]; rw [if_neg (by omega), if_neg (by omega)]
/-- The slices' cells. -/
def cellsL (L : List (Value × List Int)) : Array Value := (L.map (·.1)).toArray
theorem cellsL_get (L : List (Value × List Int)) (i : Nat) {p : Value × List Int} (h : L[i]? = some p) : (cellsL L)[i]? = some p.1 := by
  unfold cellsL
  rw [List.getElem?_toArray, List.getElem?_map, h]; rfl
theorem cellsL_set (L : List (Value × List Int)) (i : Nat) (p : Value × List Int) : (cellsL L).setIfInBounds i p.1 = cellsL (L.set i p) := by
  unfold cellsL
  rw [List.setIfInBounds_toArray, List.map_set]
end
end Go.Proofs.YtonnlkpmfmknlaaDoor.Hctx
end
