import Derived.Test.YtonnlkpmfmknlaaDoorMB3
import Derived.Test.YtonnlkpmfmknlaaDoorProg
import Derived.Below
import Derived.Deep.Draws
import Derived.Deep.AppendLies
import Derived.Maps.AppendAt
import Derived.OwnWalk
import Derived.Laws.BytesArg
import Derived.Laws.MakeOwn
import Derived.Laws.OwnMore
import Derived.Deep.OwnRows
import Derived.Tactics
import Derived.Lib.ConvBytes
import Derived.Laws.Slices
import Derived.WalkKit
import Derived.KernelRfl
import Derived.RowKit3
import Derived.Deep.LoopGhost
import Derived.Deep.QuietTactic
import Derived.BigQuiet
import Derived.WideLaws
import Derived.Deep.DeepCutAuto
import Derived.Deep.CutBlock
import Derived.Deep.RegionHeld3
import Derived.Laws.Rows
import Derived.Lib.AppendStr
import Derived.ArgAppend
import Derived.Laws.IdiomCopy
import Derived.OrdersHeld
import Derived.Laws.BitsLemmas
import Derived.RowKit
import Derived.Test.YtonnlkpmfmknlaaDoorWWords
import Derived.Test.YtonnlkpmfmknlaaDoorWLast
import Derived.Test.YtonnlkpmfmknlaaDoorWTab
import Derived.Test.YtonnlkpmfmknlaaDoorWFour
import Derived.Test.YtonnlkpmfmknlaaDoorWQPut
import Derived.Test.YtonnlkpmfmknlaaDoorWApart
import Derived.Test.YtonnlkpmfmknlaaDoorWArr
import Derived.Test.YtonnlkpmfmknlaaDoorWZeros
import Derived.Test.YtonnlkpmfmknlaaDoorWFoot
import Derived.Test.YtonnlkpmfmknlaaDoorWKept
import Derived.Test.YtonnlkpmfmknlaaDoorWShare
import Derived.Test.YtonnlkpmfmknlaaDoorWN
import Derived.Test.YtonnlkpmfmknlaaDoorWFootNe
import Derived.Test.YtonnlkpmfmknlaaDoorWAt
import Derived.Test.YtonnlkpmfmknlaaDoorWEqStruct
import Derived.Test.YtonnlkpmfmknlaaDoorWRepsOne
import Derived.Test.YtonnlkpmfmknlaaDoorWInv
import Derived.Test.YtonnlkpmfmknlaaDoorWInvWords
import Derived.Test.YtonnlkpmfmknlaaDoorWGuard
import Derived.Test.YtonnlkpmfmknlaaDoorWNEv
import Derived.Test.YtonnlkpmfmknlaaDoorWMore
import Derived.Test.YtonnlkpmfmknlaaDoorMB5
import Derived.Shelf.GgClosure.Gives
section
/-
  What the listed variables hold, as one fact.
-/
set_option linter.unusedVariables false
namespace Go.Proofs.YtonnlkpmfmknlaaDoor.Laid
open Go.RowKit
def LibStd (w : World) : Prop := Hof.Std w
theorem LibStd.below {w w1 : World} (h : LibStd w) (hb : Below w.heap.size w w1) : LibStd w1 := Hof.Std.below h hb
end Go.Proofs.YtonnlkpmfmknlaaDoor.Laid
end

section
-- laid by a program of this session (wip/gp.sh)
namespace Go.Proofs.YtonnlkpmfmknlaaDoor.GA
open Go.RowKit Go.Proofs.YtonnlkpmfmknlaaDoorW.PrintWords Go.Proofs.YtonnlkpmfmknlaaDoorW.PrintLast Go.Proofs.YtonnlkpmfmknlaaDoorW.PrintMore
attribute [local go_sem] max2_int min2_int max_two min_two max_three min_three max_four min_four   -- for this text's walks alone
set_option linter.unusedVariables false
set_option linter.unusedSimpArgs false



def errW : Option Int → Value
  | none => .nilIface
  | some c => .iface 124 (.int .i64 c)
theorem errW_none : errW none = .nilIface := rfl
theorem errW_some (c : Int) : errW (some c) = .iface 124 (.int .i64 c) := rfl

theorem info2 : (Tryd.prog.info? 2).map (fun i => (i.zero, i.size, i.bytes)) = some (some (.int .i64 0), 1, 8) := by kernel_rfl
theorem info3 : (Tryd.prog.info? 3).map (fun i => (i.zero, i.size, i.bytes)) = some (some (.int .i64 0), 1, 8) := by kernel_rfl
theorem info5 : (Tryd.prog.info? 5).map (fun i => (i.zero, i.size, i.bytes)) = some (some (.int .u8 0), 1, 1) := by kernel_rfl
theorem info9 : (Tryd.prog.info? 9).map (fun i => (i.zero, i.size, i.bytes)) = some (some (.string ⟨#[]⟩), 1, 16) := by kernel_rfl
theorem info32 : (Tryd.prog.info? 32).map (fun i => (i.zero, i.size, i.bytes)) = some (some (.agg #[(.slice none 0 0), (.slice none 0 0)]), 2, 48) := by kernel_rfl
theorem info36 : (Tryd.prog.info? 36).map (fun i => (i.zero, i.size, i.bytes)) = some (some (.int .u32 0), 1, 4) := by kernel_rfl
-- the values' own types
def rd_L3 (xs : List (List Int)) (i : Int) : (List Int) := xs.getD i.toNat ([] : List Int)
theorem at_L3 {w : World} {A : Option Addr} {n : Nat} {xs : List (List Int)} (h : Kd.C (Kd.slice 36 (Kd.int .u32)) w A n xs) (i : Int) (h0 : 0 ≤ i) (h1 : i < n) : ∃ ad A0 c0, A = some ad ∧ w.cell? (ad.add i.toNat) = some (.slice A0 (rd_L3 xs i).length c0) ∧ (rd_L3 xs i).length ≤ c0 ∧ (Kd.int .u32).C w A0 (rd_L3 xs i).length (rd_L3 xs i) := by
  obtain ⟨ad, c, e, _, hK, hc0⟩ := Kd.C_get h ([] : List Int) i h0 h1
  have hc : ∀ j u, c[j]? = some u → w.cell? (ad.add (i.toNat * 1 + j)) = some u := hc0
  obtain ⟨A0, c0, rfl, l0, g0⟩ := hK
  exact ⟨ad, A0, c0, e, by have hq := hc 0 _ rfl; rwa [Nat.mul_one, Nat.add_zero] at hq, l0, g0⟩

def rd_L5 (xs : List (List Int)) (i : Int) : (List Int) := xs.getD i.toNat ([] : List Int)
theorem at_L5 {w : World} {A : Option Addr} {n : Nat} {xs : List (List Int)} (h : Kd.C (Kd.slice 2 (Kd.int .i64)) w A n xs) (i : Int) (h0 : 0 ≤ i) (h1 : i < n) : ∃ ad A0 c0, A = some ad ∧ w.cell? (ad.add i.toNat) = some (.slice A0 (rd_L5 xs i).length c0) ∧ (rd_L5 xs i).length ≤ c0 ∧ (Kd.int .i64).C w A0 (rd_L5 xs i).length (rd_L5 xs i) := by
  obtain ⟨ad, c, e, _, hK, hc0⟩ := Kd.C_get h ([] : List Int) i h0 h1
  have hc : ∀ j u, c[j]? = some u → w.cell? (ad.add (i.toNat * 1 + j)) = some u := hc0
  obtain ⟨A0, c0, rfl, l0, g0⟩ := hK
  exact ⟨ad, A0, c0, e, by have hq := hc 0 _ rfl; rwa [Nat.mul_one, Nat.add_zero] at hq, l0, g0⟩

/-! #### struct type 32 -/
structure S32 where
  f0 : (List Int)
  f1 : (List Int)
def z32 : S32 := ⟨([] : List Int), ([] : List Int)⟩
def k32 : Kd S32 := Kd.iso (Kd.pair (Kd.slice 36 (Kd.int .u32)) (Kd.slice 2 (Kd.int .i64))) (fun x : S32 => (x.f0, x.f1))
theorem k32_heap : Kd.Heap k32 := Kd.heap_iso _ (Kd.heap_pair (Kd.heap_slice 36 (Kd.heap_int .u32)) (Kd.heap_slice 2 (Kd.heap_int .i64)))
theorem k32_open {w : World} {x : S32} {cs : List Value} (h : k32.K w x cs) : ∃ A0 c0 A1 c1, cs = [.slice A0 x.f0.length c0, .slice A1 x.f1.length c1] ∧ x.f0.length ≤ c0 ∧ (Kd.int .u32).C w A0 x.f0.length x.f0 ∧ x.f1.length ≤ c1 ∧ (Kd.int .i64).C w A1 x.f1.length x.f1 := by
  obtain ⟨_, _, rfl, ⟨A0, c0, rfl, l0, g0⟩, ⟨A1, c1, rfl, l1, g1⟩⟩ := h
  exact ⟨A0, c0, A1, c1, rfl, l0, g0, l1, g1⟩
theorem k32_openM {w : World} {base : Nat} {ok : Nat → Prop} {x : S32} {cs : List Value} (h : k32.M w base ok x cs) : ∃ v0 v1, cs = [v0, v1] ∧ (Kd.int .u32).R 36 w base ok v0 x.f0 ∧ (Kd.int .i64).R 2 w base ok v1 x.f1 := by
  obtain ⟨_, _, rfl, ⟨v0, rfl, g0⟩, ⟨v1, rfl, g1⟩⟩ := h
  exact ⟨v0, v1, rfl, g0, g1⟩
theorem k32_mk (w : World) (x : S32) {A0 : Option Addr} {c0 : Nat} (l0 : x.f0.length ≤ c0) (g0 : (Kd.int .u32).C w A0 x.f0.length x.f0) {A1 : Option Addr} {c1 : Nat} (l1 : x.f1.length ≤ c1) (g1 : (Kd.int .i64).C w A1 x.f1.length x.f1) : k32.K w x [.slice A0 x.f0.length c0, .slice A1 x.f1.length c1] := ⟨[.slice A0 x.f0.length c0], [.slice A1 x.f1.length c1], rfl, ⟨A0, c0, rfl, l0, g0⟩, ⟨A1, c1, rfl, l1, g1⟩⟩
theorem k32_mkM (w : World) (base : Nat) (ok : Nat → Prop) (x : S32) {v0 : Value} (g0 : (Kd.int .u32).R 36 w base ok v0 x.f0) {v1 : Value} (g1 : (Kd.int .i64).R 2 w base ok v1 x.f1) : k32.M w base ok x [v0, v1] := ⟨[v0], [v1], rfl, ⟨v0, rfl, g0⟩, ⟨v1, rfl, g1⟩⟩
theorem k32_openF {W : World} {ok : Nat → Prop} {x : S32} {cs : List Value} (h : Kd.FK k32 W ok x cs) : ∃ A0 c0 A1 c1, cs = [.slice A0 x.f0.length c0, .slice A1 x.f1.length c1] ∧ x.f0.length ≤ c0 ∧ Kd.F (Kd.int .u32) W ok A0 x.f0.length x.f0 ∧ x.f1.length ≤ c1 ∧ Kd.F (Kd.int .i64) W ok A1 x.f1.length x.f1 := by
  obtain ⟨A0, c0, A1, c1, rfl, l0, _, l1, _⟩ := k32_open (Kd.FK_now h)
  exact ⟨A0, c0, A1, c1, rfl, l0, (fun W' hW => by obtain ⟨A0_, c0_, A1_, c1_, he, l0_, g0_, l1_, g1_⟩ := k32_open (h W' hW); injection (Option.some.inj (show some (Value.slice A0 x.f0.length c0) = some (Value.slice A0_ x.f0.length c0_) from congrArg (fun l => l[0]?) he)) with ha_ _ _; rw [ha_]; exact g0_), l1, (fun W' hW => by obtain ⟨A0_, c0_, A1_, c1_, he, l0_, g0_, l1_, g1_⟩ := k32_open (h W' hW); injection (Option.some.inj (show some (Value.slice A1 x.f1.length c1) = some (Value.slice A1_ x.f1.length c1_) from congrArg (fun l => l[1]?) he)) with ha_ _ _; rw [ha_]; exact g1_)⟩
theorem k32_mkF (W : World) (ok : Nat → Prop) (x : S32) {A0 : Option Addr} {c0 : Nat} (l0 : x.f0.length ≤ c0) (g0 : Kd.F (Kd.int .u32) W ok A0 x.f0.length x.f0) {A1 : Option Addr} {c1 : Nat} (l1 : x.f1.length ≤ c1) (g1 : Kd.F (Kd.int .i64) W ok A1 x.f1.length x.f1) : Kd.FK k32 W ok x [.slice A0 x.f0.length c0, .slice A1 x.f1.length c1] := fun W2 hW => k32_mk W2 x l0 (g0 W2 hW) l1 (g1 W2 hW)
def rd_T32 (xs : List S32) (i : Int) : S32 := xs.getD i.toNat z32
theorem at_T32 {w : World} {A : Option Addr} {n : Nat} {xs : List S32} (h : Kd.C k32 w A n xs) (i : Int) (h0 : 0 ≤ i) (h1 : i < n) : ∃ ad A0 c0 A1 c1, A = some ad ∧ w.cell? (ad.add (i.toNat * 2)) = some (.slice A0 (rd_T32 xs i).f0.length c0) ∧ w.cell? ⟨(ad.add (i.toNat * 2)).block, (ad.add (i.toNat * 2)).off + 1, none⟩ = some (.slice A1 (rd_T32 xs i).f1.length c1) ∧ (rd_T32 xs i).f0.length ≤ c0 ∧ (Kd.int .u32).C w A0 (rd_T32 xs i).f0.length (rd_T32 xs i).f0 ∧ (rd_T32 xs i).f1.length ≤ c1 ∧ (Kd.int .i64).C w A1 (rd_T32 xs i).f1.length (rd_T32 xs i).f1 := by
  obtain ⟨ad, c, e, _, hK, hc0⟩ := Kd.C_get h z32 i h0 h1
  have hc : ∀ j u, c[j]? = some u → w.cell? (ad.add (i.toNat * 2 + j)) = some u := hc0
  obtain ⟨A0, c0, A1, c1, rfl, l0, g0, l1, g1⟩ := k32_open hK
  exact ⟨ad, A0, c0, A1, c1, e, hc 0 _ rfl, by rw [← add_field _ _ 1 (by omega)]; exact hc 1 _ rfl, l0, g0, l1, g1⟩

def rd_L8 (xs : List (List S32)) (i : Int) : (List S32) := xs.getD i.toNat ([] : List S32)
theorem at_L8 {w : World} {A : Option Addr} {n : Nat} {xs : List (List S32)} (h : Kd.C (Kd.slice 32 k32) w A n xs) (i : Int) (h0 : 0 ≤ i) (h1 : i < n) : ∃ ad A0 c0, A = some ad ∧ w.cell? (ad.add i.toNat) = some (.slice A0 (rd_L8 xs i).length c0) ∧ (rd_L8 xs i).length ≤ c0 ∧ k32.C w A0 (rd_L8 xs i).length (rd_L8 xs i) := by
  obtain ⟨ad, c, e, _, hK, hc0⟩ := Kd.C_get h ([] : List S32) i h0 h1
  have hc : ∀ j u, c[j]? = some u → w.cell? (ad.add (i.toNat * 1 + j)) = some u := hc0
  obtain ⟨A0, c0, rfl, l0, g0⟩ := hK
  exact ⟨ad, A0, c0, e, by have hq := hc 0 _ rfl; rwa [Nat.mul_one, Nat.add_zero] at hq, l0, g0⟩

def rd_L9 (xs : List (List Int)) (i : Int) : (List Int) := xs.getD i.toNat ([] : List Int)
theorem at_L9 {w : World} {A : Option Addr} {n : Nat} {xs : List (List Int)} (h : Kd.C (Kd.slice 3 (Kd.int .i64)) w A n xs) (i : Int) (h0 : 0 ≤ i) (h1 : i < n) : ∃ ad A0 c0, A = some ad ∧ w.cell? (ad.add i.toNat) = some (.slice A0 (rd_L9 xs i).length c0) ∧ (rd_L9 xs i).length ≤ c0 ∧ (Kd.int .i64).C w A0 (rd_L9 xs i).length (rd_L9 xs i) := by
  obtain ⟨ad, c, e, _, hK, hc0⟩ := Kd.C_get h ([] : List Int) i h0 h1
  have hc : ∀ j u, c[j]? = some u → w.cell? (ad.add (i.toNat * 1 + j)) = some u := hc0
  obtain ⟨A0, c0, rfl, l0, g0⟩ := hK
  exact ⟨ad, A0, c0, e, by have hq := hc 0 _ rfl; rwa [Nat.mul_one, Nat.add_zero] at hq, l0, g0⟩

end Go.Proofs.YtonnlkpmfmknlaaDoor.GA
end

section
/-
  What script.Parse makes and calls, over a call's own memory; what it comes to, as data.
-/
set_option linter.unusedVariables false
set_option linter.unusedSimpArgs false
namespace Go.Proofs.YtonnlkpmfmknlaaDoor.Q
/-- A row's growth by a line. -/
theorem items_bound (b : Bool) (k B : Nat) : ∀ (r : List (List UInt8)) (st : List (List Int)), (∀ p ∈ st, p.length ≤ B) → ∀ p ∈ (items b k st r).2, p.length ≤ B + r.length
  | [], st, h, p, hp => by have := h p hp; simpa using this
  | s :: r, st, h, p, hp => by
    rw [items] at hp
    cases hv : itemV b s with
    | none =>
      rw [hv] at hp
      have := h p hp
      simp only [List.length_cons]; omega
    | some v =>
      rw [hv] at hp
      have h2 : ∀ q ∈ st.set k (st.getD k [] ++ [v]), q.length ≤ B + 1 := by
        intro q hq
        rcases List.mem_or_eq_of_mem_set hq with hq | rfl
        · have := h q hq; omega
        · rw [List.length_append, List.getD_eq_getElem?_getD]
          cases hg : st[k]? with
          | none => simp
          | some y => have := h y (List.mem_of_getElem? hg); simp; omega
      have := items_bound b k (B + 1) r _ h2 p hp
      simp only [List.length_cons]; omega
theorem step_bound (n : Nat) (st : List (List Int)) (hd : List Bool) (ws : List (List UInt8)) (B : Nat) (h : ∀ p ∈ st, p.length ≤ B) : ∀ p ∈ (step n st hd ws).2.1, p.length ≤ B + ws.length := by
  intro p hp
  have h0 : ∀ p ∈ st, p.length ≤ B + ws.length := fun p hp => by have := h p hp; omega
  unfold step at hp
  split at hp
  · split at hp
    · split at hp
      · exact h0 p hp
      · split at hp
        · exact h0 p hp
        · have := items_bound _ _ B _ _ h p hp
          simp only [List.length_cons]; omega
    · exact h0 p hp
  · exact h0 p hp
theorem fld_len (q : UInt8 → Bool) : ∀ (l cur : List UInt8), (Fld.fld q cur l).length ≤ l.length + (if cur = [] then 0 else 1)
  | [], cur => by unfold Fld.fld; split <;> simp
  | b :: r, cur => by
    have h1 := fld_len q r []
    have h2 := fld_len q r (cur ++ [b])
    rw [if_pos rfl] at h1
    rw [if_neg (by simp)] at h2
    unfold Fld.fld
    simp only [List.length_cons]
    split
    · split
      · omega
      · simp only [List.length_cons]; omega
    · omega
def sp (b : UInt8) : Bool := b.toNat == 32
theorem lines_skip (n i : Nat) (st : List (List Int)) (hd : List Bool) (l : List UInt8) (r : List (List UInt8)) (h : Fld.fld (fun b => b.toNat == 32) [] l = [] ∨ l.head? = some 35) : lines19 n i st hd (l :: r) = lines19 n (i + 1) st hd r := by
  rw [lines19, if_pos h]
theorem lines_next (n i : Nat) (st st' : List (List Int)) (hd hd' : List Bool) (l : List UInt8) (r : List (List UInt8)) (h : ¬ (Fld.fld (fun b => b.toNat == 32) [] l = [] ∨ l.head? = some 35)) (h2 : step n st hd (Fld.fld (fun b => b.toNat == 32) [] l) = (0, st', hd')) : lines19 n i st hd (l :: r) = lines19 n (i + 1) st' hd' r := by
  rw [lines19, if_neg h, h2]; rfl
theorem lines_bad (n i : Nat) (c : Int) (st st' : List (List Int)) (hd hd' : List Bool) (l : List UInt8) (r : List (List UInt8)) (h : ¬ (Fld.fld (fun b => b.toNat == 32) [] l = [] ∨ l.head? = some 35)) (h2 : step n st hd (Fld.fld (fun b => b.toNat == 32) [] l) = (c, st', hd')) (hc : c ≠ 0) : lines19 n i st hd (l :: r) = ([], c, (i : Int) + 1) := by
  rw [lines19, if_neg h, h2]
  split
  · rename_i h3; injection h3 with h3 _; exact absurd h3 hc
  · rename_i h3; injection h3 with h3 _; rw [h3]
end Go.Proofs.YtonnlkpmfmknlaaDoor.Q
namespace Go.Proofs.YtonnlkpmfmknlaaDoor.Hof
open Go.RowKit Go.Shelf Go.Proofs.YtonnlkpmfmknlaaDoorW.PrintWords Go.Proofs.YtonnlkpmfmknlaaDoorW.PrintLast Go.Proofs.YtonnlkpmfmknlaaDoorW.PrintMore Hctx GA
/-- script.Parse, as data. -/
def parse19 (n : Int) (s : ByteArray) : List (List Int) × Int × Int :=
  if n < 1 ∨ 16 < n then ([], 1, 0) else if 262144 < s.size then ([], 2, 0) else
    Q.lines19 n.toNat 0 (List.replicate (2 * n.toNat) []) (List.replicate (2 * n.toNat) false) ((pcs s 10).map (·.data.toList))
def pairs : List (List Int) → List S32
  | a :: b :: t => ⟨a, b⟩ :: pairs t
  | _ => []
/-- What script.Parse leaves. -/
def Parsed (R : List (List Int) × Int × Int) (w : World) (e : Ending) (W' : World) : Prop :=
  ∃ v, e = .returned (.tuple #[v, .int .i64 R.2.1, .int .i64 R.2.2]) ∧ k32.R 32 W' w.heap.size (fun _ => True) v (pairs R.1) ∧ Below w.heap.size w W'
theorem parsed_nil {w W : World} (c i : Int) (hb : Below w.heap.size w W) : Parsed ([], c, i) w (.returned (.tuple #[.slice none 0 0, .int .i64 c, .int .i64 i])) W :=
  ⟨_, rfl, Kd.R_nil _ _ _ _ _, hb⟩
theorem boxGe {es : List TypeId} {w0 W W1 : World} {l : List (Nat × Array Value × TypeId)} {rows : List Row} (M : Mem es w0 W l rows) {g : Nat} {cs : Array Value} {t : TypeId} (hg : W.heap.size ≤ g) (hbox : W1.heap[g]? = some (.cells cs t (0, 0))) (hb : Below W.heap.size W W1) (ht : t ∉ es) : Mem es w0 W1 (l ++ [(g, cs, t)]) rows := by
  have M1 := M.call hb
  refine ⟨M1.below, fun x hx => ?_, ?_, M1.typ, M1.owns⟩
  · rcases List.mem_append.1 hx with h | h
    · exact M1.blk x h
    · rw [List.mem_singleton] at h; subst h
      exact ⟨hbox, Nat.le_trans (below_size M.below) hg, ht⟩
  · refine List.pairwise_append.2 ⟨M1.apart, List.pairwise_singleton _ _, fun x hx y hy => ?_⟩
    rw [List.mem_singleton] at hy; subst hy
    have := blk_lt (M.blk x hx).1
    show x.1 ≠ g
    omega
/-- The predicate of a line's words. -/
theorem isSpace (w : World) : PredAt Tryd.prog 31 #[] encR (fun r => r == 32) w := fun W r _ => by
  unfold FnGives
  go_enter Tryd.func31, Tryd.ntmps31
  go_wp2
  go_ret
  exact ⟨congrArg Ending.returned (congrArg Value.bool (show ((r : Int) == 32) = (r == 32) by rw [Bool.eq_iff_iff]; simp; try omega)), 0, rfl⟩
/-- The words of a line. -/
def wds (s : ByteArray) : List ByteArray := Lib.goFieldsP (fun r => r == 32) s
theorem wds_bytes (s : ByteArray) : (wds s).map (·.data.toList) = Fld.fld (fun b => b.toNat == 32) [] s.data.toList :=
  Fld.fields_bytes _ (fun x h => by simp at h; omega) s
theorem wds_len (s : ByteArray) : (wds s).length ≤ s.size := by
  have h := Q.fld_len (fun b => b.toNat == 32) s.data.toList []
  rw [← wds_bytes, List.length_map, if_pos rfl] at h
  have hz : s.data.toList.length = s.size := Array.length_toList
  omega
theorem wds_size {s p : ByteArray} (h : p ∈ wds s) : p.size ≤ s.size := by
  unfold wds Lib.goFieldsP at h
  obtain ⟨x, _, rfl⟩ := List.mem_map.1 h
  simp only [ByteArray.size_extract]; omega
section
variable {w0 W : World} {l : List (Nat × Array Value × TypeId)} {rows : List Row} {g n : Nat} {had : List UInt8 → Bool}
theorem fields_mem (M : MemO Tryd.prog [36, 2] w0 W l rows g n had) (s : ByteArray) (hs : s.size ≤ 262144) :
    Calls Tryd.prog 30 #[.string s, .func (.func 31) #[] #[]] W fun e W' => ∃ gw cur, e = .returned (.slice (some ⟨gw, 0, none⟩) (wds s).length (wds s).length) ∧ MemO Tryd.prog [36, 2] w0 W' (l ++ [(gw, cur, 9)]) rows g n had ∧ ∀ (i : Nat) p, (wds s)[i]? = some p → cur[i]? = some (.string p) := by
  refine (Tryd.strings_FieldsFunc 31 #[] (enters_of Tryd.func31 (by kernel_rfl) rfl) _ s W (by omega) (isSpace W)).mono ?_
  rintro e W' ⟨A, rfl, hA, ho, hb⟩
  refine ⟨A, ?_⟩
  obtain ⟨hl, ⟨h0, _⟩ | ⟨g', cap, cur, hv, hb2, hh, h2, h3, h4, h5⟩⟩ := ho
  · cases h0
  · injection hv with hv1 hv2 hv3
    injection hv1 with hv1
    injection hv1 with hv1 _ _
    subst hv1
    refine ⟨cur, rfl, (M.call hb).other (boxGe M.mem hb2 hh hb (by decide)) rfl, fun i p hp => ?_⟩
    have hi : i < (wds s).length := (List.getElem?_eq_some_iff.1 hp).1
    have h6 : (cur.toList.take ((wds s).length * 1))[i]? = some (.string p) := by
      show (cur.toList.take ((Lib.goFieldsP (fun r => r == 32) s).length * 1))[i]? = _
      rw [h5]
      show ((wds s).map Value.string)[i]? = _
      rw [List.getElem?_map, hp]; rfl
    rw [List.getElem?_take, if_pos (by omega)] at h6
    simpa using h6
/-- Split's pieces, a box. -/
theorem pieces_mem (M : MemO Tryd.prog [36, 2] w0 W l rows g n had) (S : Std W) (s : ByteArray) (hs : s.size ≤ 262144) :
    Calls Tryd.prog 29 #[.string s, .string ⟨#[10]⟩] W fun e W' => ∃ gs, e = .returned (.slice (some ⟨gs, 0, none⟩) (pcs s 10).length (pcs s 10).length) ∧ MemO Tryd.prog [36, 2] w0 W' (l ++ [(gs, ((pcs s 10).map Value.string).toArray, 9)]) rows g n had := by
  refine (split_calls S s 10 hs).mono ?_
  rintro e W' ⟨rfl, rfl⟩
  have hb : Below W.heap.size W (W.alloc (.cells ((pcs s 10).map Value.string).toArray 9)) := below_alloc (Below.refl _ _) _
  exact ⟨_, rfl, (M.call hb).other (boxGe M.mem (Nat.le_refl _) (blk_new W _) hb (by decide)) rfl⟩
end
section
variable {es : List TypeId} {w0 W : World} {l : List (Nat × Array Value × TypeId)}
theorem mkR_typ (b : Bool) (p : Value × List Int) : ∀ q, q ∈ (mkR b p).e :: (mkR b p).d.E → q ∈ [36, 2] := by
  cases b
  · intro q hq
    have h : q ∈ [2] := hq
    simp at h; simp [h]
  · intro q hq
    have h : q ∈ [36] := hq
    simp at h; simp [h]
theorem rowsOf_mem : ∀ (L : List (Value × List Int)) (b : Bool) (r : Row), r ∈ rowsOf b L → ∃ c p, p ∈ L ∧ r = mkR c p
  | [], b, r, h => by cases h
  | p :: t, b, r, h => by
    rcases List.mem_cons.1 h with rfl | h
    · exact ⟨b, p, List.mem_cons_self, rfl⟩
    · obtain ⟨c, q, hq, e⟩ := rowsOf_mem t (!b) r h
      exact ⟨c, q, List.mem_cons_of_mem _ hq, e⟩
theorem Mem.nils (M : Mem [36, 2] w0 W l []) (k : Nat) : Mem [36, 2] w0 W l (rowsOf true (List.replicate k (.slice none 0 0, []))) := by
  have key : ∀ r, r ∈ rowsOf true (List.replicate k ((.slice none 0 0 : Value), ([] : List Int))) → ∃ c, r = mkR c (.slice none 0 0, []) := fun r hr => by
    obtain ⟨c, p, hp, e⟩ := rowsOf_mem _ _ r hr
    rw [List.eq_of_mem_replicate hp] at e
    exact ⟨c, e⟩
  refine ⟨M.below, M.blk, M.apart, fun r hr => ?_, fun i r hr => ?_⟩
  · obtain ⟨c, rfl⟩ := key r hr
    exact mkR_typ c _
  · obtain ⟨c, rfl⟩ := key r (List.mem_of_getElem? hr)
    cases c
    · exact Kd.R_nil _ _ _ _ _
    · exact Kd.R_nil _ _ _ _ _
theorem made_nil (n : Nat) : madeCells #[.slice none 0 0, .slice none 0 0] (n * 2) = cellsL (List.replicate (2 * n) (.slice none 0 0, [])) := by
  apply Array.ext_getElem?
  intro j
  unfold madeCells cellsL
  by_cases hj : j < n * 2
  · have h2 : j < 2 * n := by omega
    rcases Nat.mod_two_eq_zero_or_one j with h | h
    · simp [hj, h2, h]
    · simp [hj, h2, h]
  · have h2 : ¬ j < 2 * n := by omega
    simp [hj, h2]
end
/-- The rows, two by two. -/
theorem reps_pairs {R : S32 → List Value → Prop} : ∀ (L : List (Value × List Int)) (n : Nat), L.length = 2 * n →
    (∀ (i : Nat) (p q : Value × List Int), L[2 * i]? = some p → L[2 * i + 1]? = some q → R ⟨p.2, q.2⟩ [p.1, q.1]) → Reps R 2 (pairs (L.map (·.2))) (L.map (·.1))
  | [], n, _, _ => Reps.none _ _
  | [p], n, h, _ => by simp at h; omega
  | p :: q :: t, n, h, hR => by
    have h1 := reps_pairs (R := R) t (n - 1) (by simp at h; omega) (fun i p' q' hp hq => hR (i + 1) p' q' (by rw [show 2 * (i + 1) = 2 * i + 1 + 1 by omega]; exact hp) (by rw [show 2 * (i + 1) + 1 = 2 * i + 1 + 1 + 1 by omega]; exact hq))
    exact Reps.c2 (hR 0 p q rfl rfl) h1
theorem pairs_len : ∀ (L : List (List Int)) (n : Nat), L.length = 2 * n → (pairs L).length = n
  | [], n, h => by simp at h; simp [pairs]; omega
  | [p], n, h => by simp at h; omega
  | p :: q :: t, n, h => by
    have := pairs_len t (n - 1) (by simp at h; omega)
    simp at h
    rw [pairs, List.length_cons, this]; omega
/-- What Parse hands back. -/
theorem choices_own {w0 W : World} {gr gl gm n m : Nat} {x : Array Value} {L : List (Value × List Int)} {ty : TypeId} {l : List (Nat × Array Value × TypeId)} {had : List UInt8 → Bool} (M : MemO Tryd.prog [36, 2] w0 W ((gr, x, ty) :: (gl, cellsL L, 32) :: l) (rowsOf true L) gm m had) (hL : L.length = 2 * n) (hn : n ≤ 16) :
    k32.R 32 W w0.heap.size (fun _ => True) (.slice (some ⟨gl, 0, none⟩) n n) (pairs (L.map (·.2))) := by
  have hb := M.mem.at 1 (g := gl) (cs := cellsL L) (t := 32) rfl
  have hge := M.mem.ge 1 (g := gl) (cs := cellsL L) (t := 32) rfl
  have hlen : (pairs (L.map (·.2))).length = n := pairs_len _ n (by rw [List.length_map]; exact hL)
  refine ⟨fun _ _ => trivial, L.map (·.1), ?_, reps_pairs L n hL (fun i p q hp hq => ?_)⟩
  · rw [hlen]
    refine ⟨by rw [List.length_map, hL]; show 2 * n = n * 2; omega, .inr ⟨gl, n, cellsL L, rfl, hge, hb, Nat.le_refl _, by unfold maxLen; omega, by unfold cellsL; rw [List.size_toArray, List.length_map, hL]; show 2 * n = n * 2; omega, ?_⟩⟩
    unfold cellsL
    rw [List.take_of_length_le]
    · show n * 2 ≥ _
      rw [List.length_map, hL]; omega
  · have hp1 : (rowsOf true L)[2 * i]? = some (mkR true p) := by rw [rowsOf_get, hp, show par true (2 * i) = true by unfold par; rw [if_pos (by omega)]]; rfl
    have hq1 : (rowsOf true L)[2 * i + 1]? = some (mkR false q) := by rw [rowsOf_get, hq, show par true (2 * i + 1) = false by unfold par; rw [if_neg (by omega)]; rfl]; rfl
    have o1 : (Kd.int .u32).R 36 W w0.heap.size (fun k => True ∧ some k ≠ some gl) p.1 p.2 := Kd.R_mono (Kd.R_types (M.mem.owns _ _ hp1) hb (fun q hq he => by
      have := mkR_typ true p q hq
      rw [he] at this; simp at this)) (fun k hk => ⟨trivial, fun e => hk.2 (by injection e)⟩)
    have o2 : (Kd.int .i64).R 2 W w0.heap.size (fun k => True ∧ some k ≠ some gl) q.1 q.2 := Kd.R_mono (Kd.R_types (M.mem.owns _ _ hq1) hb (fun q' hq' he => by
      have := mkR_typ false q q' hq'
      rw [he] at this; simp at this)) (fun k hk => ⟨trivial, fun e => hk.2 (by injection e)⟩)
    exact k32_mkM W _ _ ⟨p.2, q.2⟩ o1 o2
end Go.Proofs.YtonnlkpmfmknlaaDoor.Hof
end

section
/-
  script.Parse, walked.
-/
set_option linter.unusedVariables false
set_option linter.unusedSimpArgs false
namespace Go.Proofs.YtonnlkpmfmknlaaDoor.Hof
open Go.RowKit Go.Shelf Go.Proofs.YtonnlkpmfmknlaaDoorW.PrintWords Go.Proofs.YtonnlkpmfmknlaaDoorW.PrintLast Go.Proofs.YtonnlkpmfmknlaaDoorW.PrintMore Hctx GA
section
variable {ops : Array Oper} {rest : List Oper} {o : Oper} {a : Act} {Q : Exit → Act → World → Prop} {w0 W : World}
set_option maxRecDepth 100000 in
/-- The choices' room, their set and the reader. -/
theorem eMk (n : Nat) (hn : n ≤ 16) (h : ∀ gl w1, Aside0 (Mem [36, 2] w0 w1 [(gl, cellsL (List.replicate (2 * n) (.slice none 0 0, [])), 32)] []) → wpList Tryd.prog ops Q rest (a.put o.dst (.slice (some ⟨gl, 0, none⟩) n n)) w1) (M : Mem [36, 2] w0 W [] [])
    {x y : Operand} (hop : o.op = .makeSlice 22 x y := by with_reducible rfl) (hg : o.guard = none := by with_reducible rfl) (hx : a.eval x = .int .i64 (n : Int) := by rfl) (hy : a.eval y = .int .i64 (n : Int) := by rfl) :
    wpList Tryd.prog ops Q (o :: rest) a W := by
  refine wpList_plain hg fun K hK' => ?_
  obtain ⟨i, hi⟩ : ∃ i, Tryd.prog.info? 32 = some i := Option.isSome_iff_exists.1 (by kernel_rfl)
  have hz : i.zero = some (.agg #[.slice none 0 0, .slice none 0 0]) := by
    have : (Tryd.prog.info? 32).bind (·.zero) = some (.agg #[.slice none 0 0, .slice none 0 0]) := by kernel_rfl
    rw [hi] at this; exact this
  have hs : i.size = 2 := by
    have : (Tryd.prog.info? 32).map (·.size) = some 2 := by kernel_rfl
    rw [hi] at this; exact Option.some.inj this
  have hb : i.bytes = 48 := by
    have : (Tryd.prog.info? 32).map (·.bytes) = some 48 := by kernel_rfl
    rw [hi] at this; exact Option.some.inj this
  have hr := run_make (P := Tryd.prog) W 22 32 i _ (by kernel_rfl) hi hz .i64 .i64 n n (by omega) (Int.le_refl _) (by rw [hb]; omega) (by omega)
  rw [hs] at hr
  simp only [Int.toNat_natCast] at hr
  unfold Oper.wp
  simp [execOp, hop, hx, hy, hr, Result.andThen]
  refine hK' _ _ (h W.heap.size _ ⟨?_⟩)
  have e : Value.cells (.agg #[.slice none 0 0, .slice none 0 0]) = #[.slice none 0 0, .slice none 0 0] := by rfl
  rw [e, made_nil]
  exact boxGe M (Nat.le_refl _) (blk_new W _) (below_alloc (Below.refl _ _) _) (by decide)
theorem eMp {l : List (Nat × Array Value × TypeId)} {rows : List Row} (h : ∀ gm w1, Aside0 (MemO Tryd.prog [36, 2] w0 w1 l rows gm 0 (fun _ => false)) → wpList Tryd.prog ops Q rest (a.put o.dst (.map (some gm))) w1) (M : Mem [36, 2] w0 W l rows)
    {t : TypeId} (hop : o.op = .makeMap t none := by with_reducible rfl) (hg : o.guard = none := by with_reducible rfl) :
    wpList Tryd.prog ops Q (o :: rest) a W := by
  refine wpList_plain hg fun K hK' => ?_
  unfold Oper.wp
  simp only [execOp, hop, Option.map_none, run_makeMap, Result.andThen]
  refine hK' _ _ (h W.heap.size _ ⟨M.call (below_alloc (Below.refl _ _) _), ⟨.map [], World.ownsMap_made _ _ _ _, fun key => rfl⟩, below_size M.below⟩)
theorem oB {l : List (Nat × Array Value × TypeId)} {rows : List Row} {g n : Nat} {had : List UInt8 → Bool} (N : Tmp) (cs : Array Value) (t : TypeId) (M : Aside0 (MemO Tryd.prog [36, 2] w0 W l rows g n had))
    (h : ∀ gr w1, Aside0 (MemO Tryd.prog [36, 2] w0 w1 (l ++ [(gr, cs, t)]) rows g n had) → wpList Tryd.prog ops Q rest (a.put o.dst (.pointer (some ⟨gr, 0, none⟩))) w1)
    (hd : o.dst = some N := by with_reducible rfl) (hgd : o.guard = none := by with_reducible rfl) (he : t ∉ [36, 2] := by decide)
    (hr : (execOp a.eval o).run Tryd.prog W = .ok (.value (.pointer (some ⟨W.heap.size, 0, none⟩))) (W.alloc (.cells cs t (0, 0))) := by first | (go_simp; done) | (go_simp; rfl)) :
    wpList Tryd.prog ops Q (o :: rest) a W :=
  box_event hgd hd hr fun gr hg w1 hbox hb => h gr w1 ⟨(M.out.call hb).other (Mem.box M.out.mem hg hbox hb he) rfl⟩
end
theorem head_at (p : ByteArray) (h : 0 < p.size) : p.data.toList.head? = some (p[0]'h) := by
  rw [List.head?_eq_getElem?, Array.getElem?_toList]
  exact Array.getElem?_eq_getElem h
theorem perm_reader {x y : Nat × Array Value × TypeId} : [x, y].Perm [y, x] := List.Perm.swap _ _ _
set_option maxHeartbeats 4000000 in
set_option maxRecDepth 100000 in
theorem parse_calls (d : Int) (hd1 : I64 d) (s : ByteArray) (hs : s.size ≤ 2000000) (w : World) (S0 : Std w) :
    Calls Tryd.prog 10 #[.int .i64 d, .string s] w (Parsed (parse19 d s) w) := by
  have S := Lib.hid S0
  clear S0
  by_cases h1 : d < 1
  · have e1 : decide (d < 1) = true := decide_eq_true h1
    have HR := Lib.hid (show parse19 d s = ([], 1, 0) by unfold parse19; rw [if_pos (.inl h1)])
    clear h1
    go_enter Tryd.func10, Tryd.ntmps10
    go_wp2
    go_ret3
    rw [HR.out]
    exact parsed_nil 1 0 (Below.refl _ _)
  by_cases h2 : 16 < d
  · have e1 : decide (d < 1) = false := decide_eq_false h1
    have e2 : decide (d > 16) = true := decide_eq_true h2
    have e3 : decide (16 < d) = true := decide_eq_true h2
    have HR := Lib.hid (show parse19 d s = ([], 1, 0) by unfold parse19; rw [if_pos (.inr h2)])
    clear h1 h2
    go_enter Tryd.func10, Tryd.ntmps10
    go_wp2
    go_ret3
    rw [HR.out]
    exact parsed_nil 1 0 (Below.refl _ _)
  have e1 : decide (d < 1) = false := decide_eq_false h1
  have e2 : decide (d > 16) = false := decide_eq_false h2
  have e3 : decide (16 < d) = false := decide_eq_false h2
  by_cases h3 : 262144 < s.size
  · have HR := Lib.hid (show parse19 d s = ([], 2, 0) by unfold parse19; rw [if_neg (by omega), if_pos h3])
    have e4 : decide ((s.size : Int) > 262144) = true := decide_eq_true (by omega)
    clear h1 h2 h3
    go_enter Tryd.func10, Tryd.ntmps10
    go_wp2
    go_ret3
    rw [HR.out]
    exact parsed_nil 2 0 (Below.refl _ _)
  have e4 : decide ((s.size : Int) > 262144) = false := decide_eq_false (by omega)
  obtain ⟨n, rfl⟩ : ∃ n : Nat, d = (n : Int) := ⟨d.toNat, by omega⟩
  have HN := Lib.hid (show n ≤ 16 by omega)
  have HS := Lib.hid (show s.size ≤ 262144 by omega)
  have HR := Lib.hid (show parse19 n s = Q.lines19 n 0 (List.replicate (2 * n) []) (List.replicate (2 * n) false) ((pcs s 10).map (·.data.toList)) by unfold parse19; rw [if_neg (by omega), if_neg (by omega), Int.toNat_natCast])
  clear h1 h2 h3 hd1 hs
  rw [HR.out]
  clear HR
  generalize hres : Q.lines19 n 0 (List.replicate (2 * n) []) (List.replicate (2 * n) false) ((pcs s 10).map (·.data.toList)) = res
  have HRS := Lib.hid hres
  clear hres
  have M0 := Aside0.mk (Mem.start [36, 2] w)
  go_enter Tryd.func10, Tryd.ntmps10
  go_wp2_with (first
    | ((with_reducible refine gate_dst (N := 24) rfl ?_); refine eMk n HN.out ?_ M0.out; clear M0; intro gl w1 M1)
    | ((with_reducible refine gate_dst (N := 25) rfl ?_); refine eMp ?_ (Mem.nils M1.out (2 * n)); clear M1; intro gm w2 M2)
    | ((with_reducible refine gate_dst (N := 27) rfl ?_); refine oB 27 #[.slice (some ⟨gl, 0, none⟩) n n, .map (some gm), .int .i64 0] 51 M2 ?_; clear M2; intro gr w3 M3)
    | fail)
  have M4 : Aside0 (MemO Tryd.prog [36, 2] w w3 [(gr, #[.slice (some ⟨gl, 0, none⟩) n n, .map (some gm), .int .i64 0], 51), (gl, cellsL (List.replicate (2 * n) (.slice none 0 0, [])), 32)] (rowsOf true (List.replicate (2 * n) (.slice none 0 0, []))) gm 0 (fun _ => false)) := ⟨M3.out.other (Mem.perm M3.out.mem perm_reader) rfl⟩
  clear M3
  refine (pieces_mem M4.out (S.out.below M4.out.mem.below) s HS.out).mono ?_
  rintro e W29 ⟨gs, rfl, M5⟩
  have M6 := Aside0.mk M5
  clear M4 M5 e1 e2 e3 e4
  generalize hcur : ((pcs s 10).map Value.string).toArray = curs at M6
  have HCU := Lib.hid (show ∀ (i : Nat) p, (pcs s 10)[i]? = some p → curs[i]? = some (.string p) from fun i p hp => by rw [← hcur, List.getElem?_toArray, List.getElem?_map, hp]; rfl)
  clear hcur
  have HPN := Lib.hid (show (pcs s 10).length ≤ 262145 by rw [pcs_len]; have := Lib.countB_le ⟨#[10]⟩ (by decide) s.size s (Nat.le_refl _); have := HS.out; omega)
  have HPZ := Lib.hid (fun p (hp : p ∈ pcs s 10) => Nat.le_trans (pcs_size hp) HS.out)
  generalize pcs s 10 = ps at HRS HCU HPN HPZ
  go_wp2_with fail
  go_loopw [31] (fun v31 wr => ∃ (i : Nat) (L : List (Value × List Int)) (had : List UInt8 → Bool) (hd : List Bool), i ≤ ps.length ∧ v31 = .int .i64 i ∧ L.length = 2 * n ∧ (∀ p ∈ L, p.2.length ≤ i * 262144) ∧ Q.HadR n had hd ∧ Q.lines19 n i (L.map (·.2)) hd ((ps.map (·.data.toList)).drop i) = res ∧
    MemO Tryd.prog [36, 2] w wr [(gr, #[.slice (some ⟨gl, 0, none⟩) n n, .map (some gm), .int .i64 0], 51), (gl, cellsL L, 32), (gs, curs, 9)] (rowsOf true L) gm i had) (fun v31 _ => ps.length - (intOf v31).toNat)
  case atStart => exact ⟨0, List.replicate (2 * n) (.slice none 0 0, []), fun _ => false, List.replicate (2 * n) false, Nat.zero_le _, rfl, List.length_replicate, (fun p hp => by rw [List.eq_of_mem_replicate hp]; exact Nat.zero_le _), ⟨List.length_replicate, fun d hd b => by simp [List.getD_eq_getElem?_getD, List.getElem?_replicate]; split <;> rfl⟩, by rw [List.drop_zero, List.map_replicate]; exact HRS.out, M6.out⟩
  obtain ⟨i, L, had, hd, hi, rfl, hL, hbd, hR, hln, M⟩ := hrel
  have M7 := Aside0.mk M
  have HL := Lib.hid hL
  have HBD := Lib.hid hbd
  have HHR := Lib.hid hR
  have HLN := Lib.hid hln
  clear M M6 hL hbd hR hln HRS
  by_cases hir : i < ps.length
  · obtain ⟨p, hp⟩ : ∃ p, ps[i]? = some p := ⟨_, List.getElem?_eq_getElem hir⟩
    have xs : wr.cell? ⟨gs, i, none⟩ = some (.string p) := (M7.out.mem.cell 2 rfl i).trans (HCU.out i p hp)
    have HZP := Lib.hid (HPZ.out p (List.mem_of_getElem? hp))
    have HDR := Lib.hid (show (ps.map (·.data.toList)).drop i = p.data.toList :: (ps.map (·.data.toList)).drop (i + 1) by
      rw [List.drop_eq_getElem_cons (by rw [List.length_map]; exact hir)]
      congr 1
      rw [List.getElem_map]
      have := List.getElem?_eq_getElem hir
      rw [hp] at this
      rw [← Option.some.inj this])
    have q2 : (i : Int) < (ps.length : Int) := by omega
    have HIR := Lib.hid hir
    have W1 := Lib.hid (show wrap64 ((i : Int) + 1) = ((i + 1 : Nat) : Int) by rw [Int.natCast_add]; exact IntWalk.wrap64_in _ (by have := HPN.out; omega))
    clear hp hir
    go_wp2_with fail
    refine (fields_mem M7.out p HZP.out).mono ?_
    rintro e W37 ⟨gw, cur, rfl, M8, hcu⟩
    have M9 := Aside0.mk M8
    have HCW := Lib.hid hcu
    clear M8 M7 hcu xs
    cases hws : wds p with
    | nil =>
      have hb := wds_bytes p
      rw [hws] at hb
      have hnx := HLN.out
      rw [HDR.out, Q.lines_skip _ _ _ _ _ _ (.inl hb.symm)] at hnx
      have HNX := Lib.hid hnx
      clear hnx hb hws
      go_wp2
      go_roundw
      case rel => exact ⟨i + 1, L, had, hd, HIR.out, congrArg _ W1.out, HL.out, fun q hq => Nat.le_trans (HBD.out q hq) (by omega), HHR.out, HNX.out, MemO.more (M9.out.forget 3)⟩
      case measure => exact meas HIR.out W1.out
    | cons s0 t =>
      have hlw := wds_len p
      rw [hws] at hlw
      have hz0 : 0 < p.size := by simp only [List.length_cons] at hlw; omega
      have he0 : ((t.length : Int) + 1 = 0) = False := eq_false (by omega)
      have he1 : ((t.length : Int) + 1 == 0) = false := beq_eq_false_iff_ne.mpr (by omega)
      have HLW := Lib.hid hlw
      have HB := wds_bytes p
      rw [hws] at HB
      have HBY := Lib.hid HB
      have HSZ := Lib.hid (fun q (hq : q ∈ wds p) => Nat.le_trans (wds_size hq) HZP.out)
      rw [hws] at HSZ HCW
      clear HB hlw
      by_cases h35 : ((p[0]'hz0).toNat : Int) = 35
      · have hb35 : (((p[0]'hz0).toNat : Int) == 35) = true := by rw [h35]; rfl
        have hnx := HLN.out
        rw [HDR.out, Q.lines_skip _ _ _ _ _ _ (.inr (by rw [head_at p hz0]; congr 1; exact UInt8.toNat_inj.1 (by show _ = 35; omega)))] at hnx
        have HNX := Lib.hid hnx
        clear hnx hws
        go_wp2
        go_roundw
        case rel => exact ⟨i + 1, L, had, hd, HIR.out, congrArg _ W1.out, HL.out, fun q hq => Nat.le_trans (HBD.out q hq) (by omega), HHR.out, HNX.out, MemO.more (M9.out.forget 3)⟩
        case measure => exact meas HIR.out W1.out
      · have hb35 : (((p[0]'hz0).toNat : Int) == 35) = false := beq_eq_false_iff_ne.mpr h35
        have HNO := Lib.hid (show ¬ (Fld.fld (fun b => b.toNat == 32) [] p.data.toList = [] ∨ p.data.toList.head? = some 35) from fun h => by
          rcases h with h | h
          · rw [← HBY.out] at h; cases h
          · rw [head_at p hz0] at h
            injection h with h
            rw [h] at h35; exact h35 rfl)
        clear h35 hws
        go_wp2_with fail
        refine (read_calls s0 t M9.out S.out HL.out HN.out HCW.out HSZ.out (by have h1 := HLW.out; have h2 := HZP.out; simp only [List.length_cons] at h1; omega) (Nat.le_refl _) (fun q hq => by have h1 := HLW.out; have h2 := HZP.out; have h3 := HBD.out q hq; have h4 := HIR.out; have h5 := HPN.out; simp only [List.length_cons] at h1; omega) (by have h4 := HIR.out; have h5 := HPN.out; omega) HHR.out).mono ?_
        rintro e W48 ⟨L', had', rfl, M10, hL', hmap, hR'⟩
        have hbn : ∀ q ∈ (Q.step n (L.map (·.2)) hd ((s0 :: t).map (·.data.toList))).2.1, q.length ≤ (i + 1) * 262144 := fun q hq => by
          have h1 := Q.step_bound n (L.map (·.2)) hd _ (i * 262144) (fun y hy => by
            obtain ⟨x, hx, rfl⟩ := List.mem_map.1 hy
            exact HBD.out x hx) q hq
          have h2 := HLW.out
          have h3 := HZP.out
          rw [List.length_map] at h1
          omega
        have hnx := HLN.out
        rw [HDR.out] at hnx
        generalize hst : Q.step n (L.map (·.2)) hd ((s0 :: t).map (·.data.toList)) = st at hmap hR' hbn
        rw [HBY.out] at hst
        obtain ⟨c, st', hd'⟩ := st
        by_cases hc : c = 0
        · subst hc
          rw [Q.lines_next n i _ st' hd hd' _ _ HNO.out hst] at hnx
          have HNX := Lib.hid hnx
          have HMP := Lib.hid hmap
          have HBN := Lib.hid hbn
          have HRN := Lib.hid hR'
          have HLL := Lib.hid hL'
          have M11 := Aside0.mk M10
          clear hnx hst hmap hbn hR' hL' M10 M9
          go_wp2
          go_roundw
          case rel => exact ⟨i + 1, L', had', hd', HIR.out, congrArg _ W1.out, by rw [HLL.out]; exact HL.out, fun q hq => HBN.out q.2 (by rw [← HMP.out]; exact List.mem_map.2 ⟨q, hq, rfl⟩), HRN.out, by rw [HMP.out]; exact HNX.out, M11.out.forget 3⟩
          case measure => exact meas HIR.out W1.out
        · rw [Q.lines_bad n i c _ st' hd hd' _ _ HNO.out hst hc] at hnx
          have HNX := Lib.hid hnx
          have M11 := Aside0.mk M10
          have hc1 : (c = 0) = False := eq_false hc
          have hc2 : (c == 0) = false := beq_eq_false_iff_ne.mpr hc
          have hc3 : (c != 0) = true := by rw [bne, hc2]; rfl
          clear hnx hst hmap hbn hR' hL' M10 M9 hc
          go_wp2
          go_ret3
          rw [← HNX.out, W1.out]
          exact parsed_nil c _ M11.out.mem.below
  · obtain rfl : i = ps.length := by omega
    have hnx := HLN.out
    rw [List.drop_of_length_le (by rw [List.length_map]; exact Nat.le_refl _)] at hnx
    have HRR := Lib.hid (show res = (L.map (·.2), 0, 0) from hnx.symm)
    clear hnx hir
    have xr0 : wr.cell? ⟨gr, 0, none⟩ = some (.slice (some ⟨gl, 0, none⟩) n n) := M7.out.mem.cell 0 rfl 0
    go_wp2
    go_ret3
    rw [HRR.out]
    exact ⟨_, rfl, choices_own M7.out HL.out HN.out, M7.out.mem.below⟩
end Go.Proofs.YtonnlkpmfmknlaaDoor.Hof
end

section
/-
  rotalaw19.lives, walked.
-/
set_option linter.unusedVariables false
set_option linter.unusedSimpArgs false
namespace Go.Proofs.YtonnlkpmfmknlaaDoor.Hof
open Go.RowKit Go.Shelf Go.Proofs.YtonnlkpmfmknlaaDoorW.PrintWords Go.Proofs.YtonnlkpmfmknlaaDoorW.PrintLast Go.Proofs.YtonnlkpmfmknlaaDoorW.PrintMore Hctx GA
def livesText : ByteArray := ⟨#[105, 110, 112, 117, 116, 32, 48, 32, 45, 51, 10]⟩
theorem lives_parse : parse19 1 livesText = ([[], [-3]], 0, 0) := by kernel_rfl
set_option maxHeartbeats 4000000 in
set_option maxRecDepth 100000 in
theorem lives_calls (w : World) (S0 : Std w) : Calls Tryd.prog 12 #[] w fun e W' => e = .returned (.bool true) ∧ Below w.heap.size w W' := by
  have S := Lib.hid S0
  clear S0
  go_enter Tryd.func12, Tryd.ntmps12
  go_wp2_with fail
  refine (parse_calls 1 (by unfold I64; omega) livesText (by decide) w S.out).mono ?_
  rintro e W5 ⟨v, rfl, hR, hb⟩
  rw [lives_parse] at hR
  obtain ⟨A, c, rfl, hl, hC⟩ := Kd.R_reads hR
  rw [lives_parse]
  obtain ⟨ad, A0, c0, A1, c1, rfl, x0, x1, l0, g0, l1, g1⟩ := at_T32 hC 0 (by decide) (by decide)
  have e1 : (rd_T32 (pairs ([[], [-3]], (0 : Int), (0 : Int)).1) 0).f1 = [-3] := rfl
  rw [e1] at x1 l1 g1
  obtain ⟨ad1, cs, rfl, _, hK, hc⟩ := Kd.C_get g1 (0 : Int) 0 (by decide) (by decide)
  obtain rfl : cs = [.int .i64 (-3)] := hK
  have y := hc 0 _ rfl
  have HB := Lib.hid hb
  clear hR hC hl x0 l0 g0 l1 g1 hc hb e1
  simp only [Int.toNat_zero, Nat.zero_mul, Nat.add_zero, Addr.add, List.length_singleton, List.length_cons, List.length_nil, Nat.zero_add, pairs, if_true] at x1 y ⊢
  trace_state
  go_wp2
  go_ret
  exact ⟨rfl, HB.out⟩
end Go.Proofs.YtonnlkpmfmknlaaDoor.Hof
end
