import Derived.Test.YtphbepddhhdhmaaDoorRows
import Derived.Test.YtphbepddhhdhmaaDoorWMore
import Derived.ChangeArms
import Derived.DataReads
import Derived.DataElems
import Derived.SizedLaws
import Derived.ProofKit
import Derived.OpenShut
import Derived.Below
import Derived.Laws.Rows
import Derived.FnData
import Derived.Test.YtphbepddhhdhmaaDoorProg
import Derived.Deep.Draws
import Derived.Deep.AppendLies
import Derived.Maps.AppendAt
import Derived.OwnWalk
import Derived.Laws.BytesArg
import Derived.Laws.MakeOwn
import Derived.Laws.OwnMore
import Derived.Deep.OwnRows
import Derived.Tactics
import Derived.Lib.ConvBytes
import Derived.Laws.Slices
import Derived.WalkKit
import Derived.KernelRfl
import Derived.RowKit3
import Derived.Deep.LoopGhost
import Derived.Deep.QuietTactic
import Derived.BigQuiet
import Derived.WideLaws
import Derived.Deep.DeepCutAuto
import Derived.Deep.CutBlock
import Derived.Deep.RegionHeld3
import Derived.Lib.AppendStr
import Derived.ArgAppend
import Derived.Laws.IdiomCopy
import Derived.OrdersHeld
import Derived.Laws.BitsLemmas
import Derived.RowKit
import Derived.Test.YtphbepddhhdhmaaDoorWWords
import Derived.Test.YtphbepddhhdhmaaDoorWLast
import Derived.Test.YtphbepddhhdhmaaDoorWTab
import Derived.Test.YtphbepddhhdhmaaDoorWFour
import Derived.Test.YtphbepddhhdhmaaDoorWQPut
import Derived.Test.YtphbepddhhdhmaaDoorWApart
import Derived.Test.YtphbepddhhdhmaaDoorWArr
import Derived.Test.YtphbepddhhdhmaaDoorWZeros
import Derived.Test.YtphbepddhhdhmaaDoorWFoot
import Derived.Test.YtphbepddhhdhmaaDoorWKept
import Derived.Test.YtphbepddhhdhmaaDoorWShare
import Derived.Test.YtphbepddhhdhmaaDoorWN
import Derived.Test.YtphbepddhhdhmaaDoorWFootNe
import Derived.Test.YtphbepddhhdhmaaDoorWAt
import Derived.Test.YtphbepddhhdhmaaDoorWEqStruct
import Derived.Test.YtphbepddhhdhmaaDoorWRepsOne
import Derived.Test.YtphbepddhhdhmaaDoorWInv
import Derived.Test.YtphbepddhhdhmaaDoorWInvWords
import Derived.Test.YtphbepddhhdhmaaDoorWGuard
import Derived.Test.YtphbepddhhdhmaaDoorWNEv
import Derived.RangeFuncNested
import Derived.RangeFuncBound
import Derived.RangeFuncCalls
import Derived.RangeFuncLeaves
import Derived.RangeFuncBox
import Derived.Shelf.Abstract
import Derived.Shelf.AbstractIn
import Derived.Shelf.RegionOpen
import Derived.OwnWalkIn
import Derived.TacticsInMore
import Derived.LoopNIn
import Derived.LoopIn
import Derived.IntWalk
import Derived.WalkLawsBesides
import Derived.Outline
import Derived.Test.YtphbepddhhdhmaaDoorMAg0
import Derived.Lib.AppendIntMem
import Derived.Lib.ItoaLen
import Derived.Lib.Slices
import Derived.Lib.Hide
import Derived.BigCall
import Derived.Deep.RegionHeldLaw
section
/-
  From what an argument reads as (the row's words) to the kinds in which the contracts speak: one law a make of type.
-/
set_option linter.unusedVariables false
set_option linter.unusedSimpArgs false
namespace Go.Proofs.YtphbepddhhdhmaaDoor.Opn
open Go.Proofs.YtphbepddhhdhmaaDoorW.PrintWords

/-- Whatever reads as data at type t is of kind d, and G says what is known of its size. -/
structure Opens {α : Type} (P : Program) (t : TypeId) (d : Kd α) (G : α → Nat → Prop) : Prop where
  size : P.cellsOf t = d.sz
  mono : ∀ x m n, m ≤ n → G x m → G x n
  opens : ∀ {H : Type} (enc : TypeId × Value → H) (w : World) (base : Nat) (spare : Nat → Bool) (held : Bool) (fuel : Nat) (cs : List Value) (x : DataW H × List MemPlace),
    DataW.trod enc P w base spare held fuel t cs = some x → (∀ n ∈ x.1.weights P t, n ≤ reachBytes) → ∃ v, d.K w v cs ∧ G v (Rows.uptoBulk x.1)

variable {P : Program} {t e : TypeId}
def GInt (k : IntKind) (v : Int) (_ : Nat) : Prop := (Lit.int k v).wf = true
def GBool (_ : Bool) (_ : Nat) : Prop := True
def GStr (s : ByteArray) (n : Nat) : Prop := s.size ≤ 140737488351232 ∧ s.size < n
def GSl {α : Type} (B : Nat) (G : α → Nat → Prop) (xs : List α) (n : Nat) : Prop := xs.length * B ≤ 140737488351232 ∧ xs.length ≤ maxLen ∧ xs.length < n ∧ ∀ x ∈ xs, G x n

theorem opens_int {k : IntKind} (ht : P.underlying t = some (.int k)) (hc : P.cellsOf t = 1) : Opens P t (Kd.int k) (GInt k) where
  size := hc
  mono := fun _ _ _ _ h => h
  opens := by
    intro H enc w base spare held fuel cs x h _
    obtain ⟨n, rfl, rfl, hw⟩ := DataW.trod_int ht h
    exact ⟨n, rfl, hw⟩
theorem opens_bool (ht : P.underlying t = some .bool) (hc : P.cellsOf t = 1) : Opens P t Kd.bool GBool where
  size := hc
  mono := fun _ _ _ _ h => h
  opens := by
    intro H enc w base spare held fuel cs x h _
    obtain ⟨b, rfl, rfl⟩ := DataW.trod_bool ht h
    exact ⟨b, rfl, trivial⟩
theorem opens_string (ht : P.underlying t = some .string) (hc : P.cellsOf t = 1) : Opens P t Kd.string GStr where
  size := hc
  mono := fun _ _ _ hmn h => ⟨h.1, Nat.lt_of_lt_of_le h.2 hmn⟩
  opens := by
    intro H enc w base spare held fuel cs x h hw
    obtain ⟨s, rfl, rfl, _⟩ := DataW.trod_string ht h
    have h1 := hw s.data.toList.length (by simp [DataW.weights])
    refine ⟨s, rfl, ?_, ?_⟩
    · simpa [reachBytes] using h1
    · simp [Rows.uptoBulk]
theorem weights_all {H : Type} {P : Program} {e : TypeId} : ∀ {l : List (DataW H)} {d : DataW H}, d ∈ l → ∀ n ∈ d.weights P e, n ∈ DataW.weightsAll P e l
  | a :: l, d, hd, n, hn => by
    rw [DataW.weightsAll]
    rcases List.mem_cons.1 hd with rfl | hd
    · exact List.mem_append_left _ hn
    · exact List.mem_append_right _ (weights_all hd n hn)
theorem bulk_all {H : Type} : ∀ {l : List (DataW H)} {d : DataW H}, d ∈ l → Rows.uptoBulk d ≤ Rows.uptoBulkAll l
  | a :: l, d, hd => by
    rw [Rows.uptoBulkAll]
    rcases List.mem_cons.1 hd with rfl | hd
    · omega
    · have := bulk_all hd; omega
theorem bulk_pos {H : Type} (d : DataW H) : 1 ≤ Rows.uptoBulk d := by
  cases d with
  | lit l => cases l <;> simp [Rows.uptoBulk]
  | _ => simp [Rows.uptoBulk]
theorem bulk_len {H : Type} : ∀ l : List (DataW H), l.length ≤ Rows.uptoBulkAll l
  | [] => by simp
  | a :: l => by rw [Rows.uptoBulkAll]; have := bulk_len l; have := bulk_pos a; simp; omega
theorem choice_list {α : Type} {R : Nat → α → Prop} : ∀ (n : Nat), (∀ i < n, ∃ v, R i v) → ∃ l : List α, l.length = n ∧ ∀ i v, l[i]? = some v → R i v
  | 0, _ => ⟨[], rfl, fun i v h => by simp at h⟩
  | n + 1, h => by
    obtain ⟨l, hl, hr⟩ := choice_list n (fun i hi => h i (by omega))
    obtain ⟨v, hv⟩ := h n (by omega)
    refine ⟨l ++ [v], by simp [hl], fun i u hu => ?_⟩
    rcases Nat.lt_or_ge i l.length with hi | hi
    · rw [List.getElem?_append_left hi] at hu
      exact hr i u hu
    · rw [List.getElem?_append_right hi] at hu
      have h0 : i - l.length = 0 := by
        rcases Nat.eq_zero_or_pos (i - l.length) with h0 | h0
        · exact h0
        · rw [List.getElem?_eq_none (by simp; omega)] at hu; cases hu
      rw [h0] at hu
      obtain rfl : v = u := by simpa using hu
      obtain rfl : i = n := by omega
      exact hv
theorem opens_slice {α : Type} {d : Kd α} {G : α → Nat → Prop} {B : Nat} (he : Opens P e d G) (ht : P.underlying t = some (.slice e)) (hc : P.cellsOf t = 1) (hB : P.bytesOf e = B) : Opens P t (Kd.slice e d) (GSl B G) where
  size := hc
  mono := fun _ _ _ hmn h => ⟨h.1, h.2.1, Nat.lt_of_lt_of_le h.2.2.1 hmn, fun x hx => he.mono _ _ _ hmn (h.2.2.2 x hx)⟩
  opens := by
    intro H enc w base spare held fuel cs x h hw
    rcases DataW.trod_slice ht h with ⟨rfl, rfl⟩ | ⟨a, len, cap, elems, rest, n, rfl, rfl, rfl, hb, hl, hm, hlen, hel, _, _⟩
    · exact ⟨[], ⟨none, 0, rfl, Nat.le_refl _, Kd.C_nil d w⟩, by simp, by simp, by simp [Rows.uptoBulk], by simp⟩
    · simp only [DataW.weights, ht] at hw
      have hbulk : Rows.uptoBulkAll (elems.map (·.1)) < Rows.uptoBulk (DataW.slice (elems.map (·.1)) (rest.map (·.1))) := by rw [Rows.uptoBulk]; omega
      have each : ∀ i < len, ∃ v, ∃ c, d.K w v c ∧ G v (Rows.uptoBulk (DataW.slice (elems.map (·.1)) (rest.map (·.1)))) ∧ w.cells? base (a.add (i * P.cellsOf e)) (P.cellsOf e) = some c := by
        intro i hi
        have h1 := hel i hi
        rw [List.getElem?_eq_getElem (by omega)] at h1
        obtain ⟨c, hc1, hc2⟩ := Option.bind_eq_some_iff.1 h1
        have hmem : elems[i].1 ∈ elems.map (·.1) := List.mem_map.2 ⟨_, List.getElem_mem _, rfl⟩
        obtain ⟨v, hv1, hv2⟩ := he.opens enc w base spare held n c _ hc2 (fun q hq => hw q (List.mem_cons_of_mem _ (List.mem_append_left _ (weights_all hmem q hq))))
        exact ⟨v, c, hv1, he.mono _ _ _ (by have := bulk_all hmem; omega) hv2, hc1⟩
      obtain ⟨l, hl1, hl2⟩ := choice_list len each
      refine ⟨l, ⟨some a, cap, by rw [hl1], by omega, ?_⟩, ?_, by rw [hl1]; omega, ?_, ?_⟩
      · rw [hl1]
        refine ⟨hl1, by unfold maxLen at hm; omega, fun _ => ⟨a, rfl, fun j p hj => ?_⟩⟩
        obtain ⟨c, hc1, _, hc3⟩ := hl2 j p hj
        obtain ⟨_, hc4, hc5⟩ := World.cells?_some hc3
        refine ⟨c, by rw [hc4, he.size], hc1, fun i u hu => ?_⟩
        have hi : i < P.cellsOf e := by
          rcases Nat.lt_or_ge i c.length with h | h
          · omega
          · rw [List.getElem?_eq_none h] at hu; cases hu
        have := hc5 i hi
        rw [hu] at this
        rw [← this, ← he.size]
        rw [Addr.add_add]
      · have h1 := hw _ (List.mem_cons_self)
        rw [hl1, ← hB, ← hlen]
        have h2 : elems.length * P.bytesOf e ≤ ((elems.map (·.1)).length + (rest.map (·.1)).length) * P.bytesOf e := Nat.mul_le_mul_right _ (by simp)
        exact Nat.le_trans h2 (by simpa [reachBytes] using h1)
      · rw [hl1, ← hlen]
        have := bulk_len (elems.map (·.1))
        simp at this ⊢
        simp at hbulk
        omega
      · intro x hx
        obtain ⟨i, hi, rfl⟩ := List.getElem_of_mem hx
        exact (hl2 i _ (List.getElem?_eq_getElem hi)).choose_spec.2.1

/-! ### structs: their fields in line -/
structure OpensSeq {α : Type} (P : Program) (ts : List TypeId) (d : Kd α) (G : α → Nat → Prop) : Prop where
  size : (ts.map P.cellsOf).sum = d.sz
  mono : ∀ x m n, m ≤ n → G x m → G x n
  opens : ∀ {H : Type} (enc : TypeId × Value → H) (w : World) (base : Nat) (spare : Nat → Bool) (held : Bool) (fuel : Nat) (cs : List Value) (xs : List (DataW H × List MemPlace)),
    cs.length = d.sz → xs.length = ts.length →
    (∀ i t, ts[i]? = some t → ∃ y, xs[i]? = some y ∧ DataW.trod enc P w base spare held fuel t ((cs.drop ((ts.take i).map P.cellsOf).sum).take (P.cellsOf t)) = some y ∧ ∀ n ∈ y.1.weights P t, n ≤ reachBytes) →
    ∃ v, d.K w v cs ∧ G v (Rows.uptoBulkAll (xs.map (·.1)))
theorem seq_one {α : Type} {d : Kd α} {G : α → Nat → Prop} (h : Opens P t d G) : OpensSeq P [t] d G where
  size := by simp [h.size]
  mono := h.mono
  opens := by
    intro H enc w base spare held fuel cs xs hl hx hf
    obtain ⟨y, hy, ht, hw⟩ := hf 0 t rfl
    have e : (cs.drop 0).take (P.cellsOf t) = cs := by rw [List.drop_zero, List.take_of_length_le (by rw [hl, h.size]; exact Nat.le_refl _)]
    simp only [List.take_zero, List.map_nil, List.sum_nil] at ht
    rw [e] at ht
    obtain ⟨v, h1, h2⟩ := h.opens enc w base spare held fuel cs y ht hw
    exact ⟨v, h1, h.mono _ _ _ (bulk_all (List.mem_map.2 ⟨y, List.mem_of_getElem? hy, rfl⟩)) h2⟩
def GPair {α β : Type} (G : α → Nat → Prop) (G' : β → Nat → Prop) (x : α × β) (n : Nat) : Prop := G x.1 n ∧ G' x.2 n
theorem seq_cons {α β : Type} {d : Kd α} {G : α → Nat → Prop} {ts : List TypeId} {d' : Kd β} {G' : β → Nat → Prop} (h : Opens P t d G) (h' : OpensSeq P ts d' G') : OpensSeq P (t :: ts) (Kd.pair d d') (GPair G G') where
  size := by show _ = d.sz + d'.sz; simp [h.size, ← h'.size]
  mono := fun x m n hmn hx => ⟨h.mono _ _ _ hmn hx.1, h'.mono _ _ _ hmn hx.2⟩
  opens := by
    intro H enc w base spare held fuel cs xs hl hx hf
    replace hl : cs.length = d.sz + d'.sz := hl
    obtain ⟨y, hy, ht, hw⟩ := hf 0 t rfl
    simp only [List.take_zero, List.map_nil, List.sum_nil, List.drop_zero] at ht
    obtain ⟨v, h1, h2⟩ := h.opens enc w base spare held fuel _ y ht hw
    match xs, hx with
    | [], hx => simp at hx
    | x0 :: xs, hx =>
      obtain rfl : x0 = y := by simpa using hy
      obtain ⟨v', h3, h4⟩ := h'.opens enc w base spare held fuel (cs.drop (P.cellsOf t)) xs (by rw [List.length_drop, hl, h.size]; omega) (by simpa using hx) (fun i t' hi => by
        obtain ⟨y', hy', ht', hw'⟩ := hf (i + 1) t' (by simpa using hi)
        refine ⟨y', by simpa using hy', ?_, hw'⟩
        rw [List.drop_drop]
        simpa [List.take_succ_cons] using ht')
      refine ⟨(v, v'), ⟨cs.take (P.cellsOf t), cs.drop (P.cellsOf t), (List.take_append_drop _ _).symm, h1, h3⟩, ?_, ?_⟩
      · refine h.mono _ _ _ ?_ h2
        rw [List.map_cons, Rows.uptoBulkAll]; omega
      · refine h'.mono _ _ _ ?_ h4
        rw [List.map_cons, Rows.uptoBulkAll]; omega
def offsB (P : Program) : Nat → List Field → Bool
  | _, [] => true
  | o, f :: r => (f.offset == o) && offsB P (o + P.cellsOf f.type) r
theorem offs_at : ∀ {l : List Field} {o : Nat}, offsB P o l = true → ∀ i f, l[i]? = some f → f.offset = o + (((l.map (·.type)).take i).map P.cellsOf).sum
  | [], o, _, i, f, hf => by simp at hf
  | a :: l, o, h, i, f, hf => by
    simp only [offsB, Bool.and_eq_true, beq_iff_eq] at h
    cases i with
    | zero => obtain rfl : a = f := by simpa using hf
              simp [h.1]
    | succ i =>
      have := offs_at h.2 i f (by simpa using hf)
      rw [this]
      simp [List.take_succ_cons]; omega
theorem weights_each {H : Type} : ∀ {ts : List TypeId} {ds : List (DataW H)} {i : Nat} {t : TypeId} {d : DataW H}, ts[i]? = some t → ds[i]? = some d → ∀ n ∈ d.weights P t, n ∈ DataW.weightsEach P ts ds :=
  fun ht hd n hn => DataW.weights_mem_each ht hd n hn
theorem opens_struct {α β : Type} {d : Kd α} {G : α → Nat → Prop} {fs : Array Field} {ts : List TypeId} (h : OpensSeq P ts d G) (ht : P.underlying t = some (.struct fs)) (hts : fs.toList.map (·.type) = ts) (ho : offsB P 0 fs.toList = true)
    (hc : P.cellsOf t = d.sz) (f : β → α) (g : α → β) (hfg : ∀ a, f (g a) = a) : Opens P t (Kd.iso d f) (fun x n => G (f x) n) where
  size := hc
  mono := fun x m n hmn hx => h.mono _ _ _ hmn hx
  opens := by
    intro H enc w base spare held fuel cs x hx hw
    obtain ⟨xs, n, _, rfl, hl, hlen, hf⟩ := DataW.trod_struct ht hx
    have hlen2 : xs.length = ts.length := by rw [hlen, ← hts]; simp
    simp only [DataW.weights, ht, hts] at hw
    obtain ⟨v, h1, h2⟩ := h.opens enc w base spare held n cs xs (hl.trans hc) hlen2 (fun i t' hi => by
      have hi2 : i < ts.length := by
        rcases Nat.lt_or_ge i ts.length with h | h
        · exact h
        · rw [List.getElem?_eq_none h] at hi; cases hi
      have hfi : ∃ fi : Field, fs[i]? = some fi ∧ fi.type = t' := by
        rw [← hts, List.getElem?_map] at hi
        obtain ⟨fi, h3, h4⟩ := Option.map_eq_some_iff.1 hi
        exact ⟨fi, by simpa using h3, h4⟩
      obtain ⟨fi, hfi1, rfl⟩ := hfi
      have h5 := hf i fi hfi1
      refine ⟨xs[i], List.getElem?_eq_getElem (by omega), ?_, ?_⟩
      · rw [List.getElem?_eq_getElem (by omega)] at h5
        have := offs_at ho i fi (by simpa using hfi1)
        rw [hts, Nat.zero_add] at this
        rw [← this]
        exact h5
      · intro q hq
        exact hw q (weights_each hi (by rw [List.getElem?_map, List.getElem?_eq_getElem (by omega)]; rfl) q hq))
    refine ⟨g v, by show d.K w (f (g v)) cs; rw [hfg]; exact h1, ?_⟩
    show G (f (g v)) _
    rw [hfg]
    exact h.mono _ _ _ (by rw [Rows.uptoBulk]; omega) h2
end Go.Proofs.YtphbepddhhdhmaaDoor.Opn
end

section
/-
  The listed variables of package trace and of the library: what their cells hold, and that calls which write nothing there keep it.
-/
set_option linter.unusedVariables false
set_option linter.unusedSimpArgs false
namespace Go.Proofs.YtphbepddhhdhmaaDoor.Laid
open Go.RowKit Go.Proofs.YtphbepddhhdhmaaDoorW.PrintWords
def names : List ByteArray := [⟨#[100, 105, 115, 112, 97, 116, 99, 104]⟩, ⟨#[98, 101, 103, 105, 110]⟩, ⟨#[100, 111, 110, 101]⟩, ⟨#[119, 97, 105, 116]⟩, ⟨#[114, 101, 97, 100, 121]⟩, ⟨#[115, 112, 97, 119, 110]⟩, ⟨#[121, 105, 101, 108, 100]⟩, ⟨#[112, 114, 101, 101, 109, 112, 116]⟩, ⟨#[108, 101, 97, 118, 101]⟩, ⟨#[101, 120, 105, 116]⟩, ⟨#[116, 114, 97, 112]⟩, ⟨#[111, 117, 116, 112, 117, 116]⟩, ⟨#[105, 110, 112, 117, 116]⟩, ⟨#[99, 108, 111, 99, 107]⟩, ⟨#[101, 114, 114, 111, 114]⟩, ⟨#[115, 101, 110, 100]⟩, ⟨#[114, 101, 99, 118]⟩, ⟨#[112, 105, 99, 107]⟩, ⟨#[99, 108, 111, 115, 101]⟩, ⟨#[108, 111, 99, 107]⟩, ⟨#[117, 110, 108, 111, 99, 107]⟩, ⟨#[103, 114, 111, 117, 112]⟩, ⟨#[106, 111, 105, 110]⟩, ⟨#[115, 105, 103, 110, 97, 108]⟩, ⟨#[97, 119, 97, 105, 116]⟩, ⟨#[97, 99, 113, 117, 105, 114, 101]⟩, ⟨#[114, 101, 108, 101, 97, 115, 101]⟩, ⟨#[108, 111, 97, 100]⟩, ⟨#[115, 116, 111, 114, 101]⟩, ⟨#[115, 119, 97, 112]⟩, ⟨#[102, 97, 105, 108]⟩, ⟨#[97, 100, 100]⟩, ⟨#[112, 117, 116]⟩, ⟨#[103, 101, 116]⟩, ⟨#[116, 105, 109, 101, 114]⟩, ⟨#[100, 101, 97, 100]⟩]
def nameAt (i : Nat) : ByteArray := names.getD i ⟨#[]⟩
/-- The table of names (variable 0) holds its texts. -/
def LaidNames (w : World) : Prop := ∀ i < 36, w.cell? ⟨0, i, none⟩ = some (.string (nameAt i))
theorem LaidNames.below {w w1 : World} (h : LaidNames w) (hb : Below w.heap.size w w1) : LaidNames w1 := fun i hi =>
  (hb.cell (p := ⟨0, i, none⟩) (block_lt_of_cell (h i hi))).trans (h i hi)
theorem laidVars_mem {P : Program} {w : World} {name : String} {d : DataW Unit} : ∀ {laid : List (String × DataW Unit)} {ps : List MemPlace}, DataW.LaidVars P w laid ps → (name, d) ∈ laid →
    ∃ g t cs fuel p, P.globalNamed name = some g ∧ (P.globals[g]?).map (·.type) = some t ∧ w.var? P name = some cs ∧ DataW.trod (fun _ => ()) P w 0 (fun _ => true) false fuel t cs.toList = some (d, p)
  | [], _, _, hm => by simp at hm
  | (n', d') :: r, ps, h, hm => by
    obtain ⟨g, t, cs, fuel, p, q, h1, h2, h3, h4, h5, _⟩ := h
    rcases List.mem_cons.1 hm with e | hm
    · obtain ⟨rfl, rfl⟩ := Prod.mk.inj e
      exact ⟨g, t, cs, fuel, p, h1, h2, h3, h4⟩
    · exact laidVars_mem h5 hm
/-- A variable that is an array of texts: its cells. -/
theorem strings_at {P : Program} {w : World} {name : String} {laid : List (String × DataW Unit)} {ls : List (List UInt8)} {g t e : TypeId} {n : Nat} (h : laidMet P laid w) (hm : (name, (DataW.agg (ls.map fun l => .lit (.string l)) : DataW Unit)) ∈ laid)
    (hg : P.globalNamed name = some g) (hty : (P.globals[g]?).map (·.type) = some t) (ht : P.underlying t = some (.array n e)) (he : P.underlying e = some .string) (hce : P.cellsOf e = 1) :
    ∀ i < n, w.cell? ⟨g, i, none⟩ = some (.string ⟨(ls.getD i []).toArray⟩) := by
  intro i hi
  obtain ⟨ps, hps, _⟩ := h
  obtain ⟨g', t', cs, fuel, p, hg', ht', hvar, hd⟩ := laidVars_mem hps hm
  obtain rfl := Option.some.inj (hg.symm.trans hg')
  obtain rfl := Option.some.inj (hty.symm.trans ht')
  obtain ⟨xs, m, _, hx, hl, hlen, hf⟩ := DataW.trod_array ht hd
  have h1 := hf i hi
  rw [List.getElem?_eq_getElem (by omega)] at h1
  obtain ⟨s, hc, hy, _⟩ := DataW.trod_string he h1
  rw [hce, Nat.mul_one] at hc
  have h2 : cs[i]? = some (.string s) := by
    have := congrArg (·[0]?) hc
    simpa [List.getElem?_take, List.getElem?_drop] using this
  have h3 : (ls.map fun l => (DataW.lit (.string l) : DataW Unit))[i]? = some (DataW.lit (.string s.data.toList)) := by
    have h4 := congrArg Prod.fst hx
    simp only [DataW.agg.injEq] at h4
    rw [h4, List.getElem?_map, List.getElem?_eq_getElem (by omega), Option.map_some, hy]
  rw [World.var?_cell hg hvar i, h2]
  rw [List.getElem?_map, Option.map_eq_some_iff] at h3
  obtain ⟨l, h5, h6⟩ := h3
  simp only [DataW.lit.injEq, Lit.string.injEq] at h6
  rw [List.getD_eq_getElem?_getD, h5, h6]
  simp
theorem names_of {w : World} {laid : List (String × DataW Unit)} (h : laidMet Tryd.prog laid w) (hm : ("rota/trace.names", Rows.laid_rota_trace_names) ∈ laid) : LaidNames w := by
  intro i hi
  have e : (Rows.laid_rota_trace_names : DataW Unit) = .agg ((names.map fun s => s.data.toList).map fun l => .lit (.string l)) := by kernel_rfl
  rw [e] at hm
  have := strings_at h hm (g := 0) (by kernel_rfl) (by kernel_rfl) Tryd.underlying50 Tryd.underlying9 (by kernel_rfl) i hi
  rw [this]
  unfold nameAt
  rw [List.getD_eq_getElem?_getD, List.getD_eq_getElem?_getD, List.getElem?_map, List.getElem?_eq_getElem (show i < names.length from hi)]
  rfl
end Go.Proofs.YtphbepddhhdhmaaDoor.Laid
end

section
-- laid by a program of this session (wip/gp.sh)
namespace Go.Proofs.YtphbepddhhdhmaaDoor.GA
open Go.RowKit Go.Proofs.YtphbepddhhdhmaaDoorW.PrintWords Go.Proofs.YtphbepddhhdhmaaDoorW.PrintLast Go.Proofs.YtphbepddhhdhmaaDoorW.PrintMore
attribute [local go_sem] max2_int min2_int max_two min_two max_three min_three max_four min_four   -- for this text's walks alone
set_option linter.unusedVariables false
set_option linter.unusedSimpArgs false



def errW : Option Int → Value
  | none => .nilIface
  | some c => .iface 100 (.int .i64 c)
theorem errW_none : errW none = .nilIface := rfl
theorem errW_some (c : Int) : errW (some c) = .iface 100 (.int .i64 c) := rfl

theorem info2 : (Tryd.prog.info? 2).map (fun i => (i.zero, i.size, i.bytes)) = some (some (.int .i64 0), 1, 8) := by kernel_rfl
theorem info5 : (Tryd.prog.info? 5).map (fun i => (i.zero, i.size, i.bytes)) = some (some (.int .u8 0), 1, 1) := by kernel_rfl
theorem info9 : (Tryd.prog.info? 9).map (fun i => (i.zero, i.size, i.bytes)) = some (some (.string ⟨#[]⟩), 1, 16) := by kernel_rfl
theorem info33 : (Tryd.prog.info? 33).map (fun i => (i.zero, i.size, i.bytes)) = some (some (.agg #[(.int .i64 0), (.int .i64 0)]), 2, 16) := by kernel_rfl
theorem info36 : (Tryd.prog.info? 36).map (fun i => (i.zero, i.size, i.bytes)) = some (some (.agg #[(.int .u64 0), (.int .i64 0), (.int .i64 0), (.int .i64 0), (.int .i64 0), (.int .i64 0), (.int .i64 0), (.int .i64 0)]), 8, 64) := by kernel_rfl
-- the values' own types
/-! #### struct type 33 -/
structure S33 where
  f0 : Int
  f1 : Int
def z33 : S33 := ⟨(0 : Int), (0 : Int)⟩
def k33 : Kd S33 := Kd.iso (Kd.pair (Kd.int .i64) (Kd.int .i64)) (fun x : S33 => (x.f0, x.f1))
theorem k33_open {w : World} {x : S33} {cs : List Value} (h : k33.K w x cs) : cs = [.int .i64 x.f0, .int .i64 x.f1] := by
  obtain ⟨_, _, rfl, rfl, rfl⟩ := h
  exact rfl
theorem k33_openM {w : World} {base : Nat} {ok : Nat → Prop} {x : S33} {cs : List Value} (h : k33.M w base ok x cs) : cs = [.int .i64 x.f0, .int .i64 x.f1] := by
  obtain ⟨_, _, rfl, rfl, rfl⟩ := h
  exact rfl
theorem k33_mk (w : World) (x : S33)  : k33.K w x [.int .i64 x.f0, .int .i64 x.f1] := ⟨[.int .i64 x.f0], [.int .i64 x.f1], rfl, rfl, rfl⟩
theorem k33_mkM (w : World) (base : Nat) (ok : Nat → Prop) (x : S33)  : k33.M w base ok x [.int .i64 x.f0, .int .i64 x.f1] := ⟨[.int .i64 x.f0], [.int .i64 x.f1], rfl, rfl, rfl⟩
def rd_T33 (xs : List S33) (i : Int) : S33 := xs.getD i.toNat z33
theorem at_T33 {w : World} {A : Option Addr} {n : Nat} {xs : List S33} (h : Kd.C k33 w A n xs) (i : Int) (h0 : 0 ≤ i) (h1 : i < n) : ∃ ad , A = some ad ∧ w.cell? (ad.add (i.toNat * 2)) = some (.int .i64 (rd_T33 xs i).f0) ∧ w.cell? ⟨(ad.add (i.toNat * 2)).block, (ad.add (i.toNat * 2)).off + 1, none⟩ = some (.int .i64 (rd_T33 xs i).f1) := by
  obtain ⟨ad, c, e, _, hK, hc0⟩ := Kd.C_get h z33 i h0 h1
  have hc : ∀ j u, c[j]? = some u → w.cell? (ad.add (i.toNat * 2 + j)) = some u := hc0
  obtain rfl := k33_open hK
  exact ⟨ad, e, hc 0 _ rfl, by rw [← add_field _ _ 1 (by omega)]; exact hc 1 _ rfl⟩

/-! #### struct type 36 -/
structure S36 where
  f0 : Int
  f1 : Int
  f2 : S33
  f3 : Int
  f4 : Int
  f5 : Int
  f6 : Int
def z36 : S36 := ⟨(0 : Int), (0 : Int), z33, (0 : Int), (0 : Int), (0 : Int), (0 : Int)⟩
def k36 : Kd S36 := Kd.iso (Kd.pair (Kd.int .u64) (Kd.pair (Kd.int .i64) (Kd.pair k33 (Kd.pair (Kd.int .i64) (Kd.pair (Kd.int .i64) (Kd.pair (Kd.int .i64) (Kd.int .i64))))))) (fun x : S36 => (x.f0, x.f1, x.f2, x.f3, x.f4, x.f5, x.f6))
theorem k36_open {w : World} {x : S36} {cs : List Value} (h : k36.K w x cs) : cs = [.int .u64 x.f0, .int .i64 x.f1, .int .i64 x.f2.f0, .int .i64 x.f2.f1, .int .i64 x.f3, .int .i64 x.f4, .int .i64 x.f5, .int .i64 x.f6] := by
  obtain ⟨_, _, rfl, rfl, ⟨_, _, rfl, rfl, ⟨_, _, rfl, s2, ⟨_, _, rfl, rfl, ⟨_, _, rfl, rfl, ⟨_, _, rfl, rfl, rfl⟩⟩⟩⟩⟩⟩ := h
  obtain rfl := k33_open s2
  exact rfl
theorem k36_openM {w : World} {base : Nat} {ok : Nat → Prop} {x : S36} {cs : List Value} (h : k36.M w base ok x cs) : cs = [.int .u64 x.f0, .int .i64 x.f1, .int .i64 x.f2.f0, .int .i64 x.f2.f1, .int .i64 x.f3, .int .i64 x.f4, .int .i64 x.f5, .int .i64 x.f6] := by
  obtain ⟨_, _, rfl, rfl, ⟨_, _, rfl, rfl, ⟨_, _, rfl, s2, ⟨_, _, rfl, rfl, ⟨_, _, rfl, rfl, ⟨_, _, rfl, rfl, rfl⟩⟩⟩⟩⟩⟩ := h
  obtain rfl := k33_openM s2
  exact rfl
theorem k36_mk (w : World) (x : S36)  : k36.K w x [.int .u64 x.f0, .int .i64 x.f1, .int .i64 x.f2.f0, .int .i64 x.f2.f1, .int .i64 x.f3, .int .i64 x.f4, .int .i64 x.f5, .int .i64 x.f6] := ⟨[.int .u64 x.f0], [.int .i64 x.f1, .int .i64 x.f2.f0, .int .i64 x.f2.f1, .int .i64 x.f3, .int .i64 x.f4, .int .i64 x.f5, .int .i64 x.f6], rfl, rfl, ⟨[.int .i64 x.f1], [.int .i64 x.f2.f0, .int .i64 x.f2.f1, .int .i64 x.f3, .int .i64 x.f4, .int .i64 x.f5, .int .i64 x.f6], rfl, rfl, ⟨[.int .i64 x.f2.f0, .int .i64 x.f2.f1], [.int .i64 x.f3, .int .i64 x.f4, .int .i64 x.f5, .int .i64 x.f6], rfl, (k33_mk w x.f2 ), ⟨[.int .i64 x.f3], [.int .i64 x.f4, .int .i64 x.f5, .int .i64 x.f6], rfl, rfl, ⟨[.int .i64 x.f4], [.int .i64 x.f5, .int .i64 x.f6], rfl, rfl, ⟨[.int .i64 x.f5], [.int .i64 x.f6], rfl, rfl, rfl⟩⟩⟩⟩⟩⟩
theorem k36_mkM (w : World) (base : Nat) (ok : Nat → Prop) (x : S36)  : k36.M w base ok x [.int .u64 x.f0, .int .i64 x.f1, .int .i64 x.f2.f0, .int .i64 x.f2.f1, .int .i64 x.f3, .int .i64 x.f4, .int .i64 x.f5, .int .i64 x.f6] := ⟨[.int .u64 x.f0], [.int .i64 x.f1, .int .i64 x.f2.f0, .int .i64 x.f2.f1, .int .i64 x.f3, .int .i64 x.f4, .int .i64 x.f5, .int .i64 x.f6], rfl, rfl, ⟨[.int .i64 x.f1], [.int .i64 x.f2.f0, .int .i64 x.f2.f1, .int .i64 x.f3, .int .i64 x.f4, .int .i64 x.f5, .int .i64 x.f6], rfl, rfl, ⟨[.int .i64 x.f2.f0, .int .i64 x.f2.f1], [.int .i64 x.f3, .int .i64 x.f4, .int .i64 x.f5, .int .i64 x.f6], rfl, (k33_mkM w base ok x.f2 ), ⟨[.int .i64 x.f3], [.int .i64 x.f4, .int .i64 x.f5, .int .i64 x.f6], rfl, rfl, ⟨[.int .i64 x.f4], [.int .i64 x.f5, .int .i64 x.f6], rfl, rfl, ⟨[.int .i64 x.f5], [.int .i64 x.f6], rfl, rfl, rfl⟩⟩⟩⟩⟩⟩
def rd_T36 (xs : List S36) (i : Int) : S36 := xs.getD i.toNat z36
theorem at_T36 {w : World} {A : Option Addr} {n : Nat} {xs : List S36} (h : Kd.C k36 w A n xs) (i : Int) (h0 : 0 ≤ i) (h1 : i < n) : ∃ ad , A = some ad ∧ w.cell? (ad.add (i.toNat * 8)) = some (.int .u64 (rd_T36 xs i).f0) ∧ w.cell? ⟨(ad.add (i.toNat * 8)).block, (ad.add (i.toNat * 8)).off + 1, none⟩ = some (.int .i64 (rd_T36 xs i).f1) ∧ w.cell? ⟨(ad.add (i.toNat * 8)).block, (ad.add (i.toNat * 8)).off + 2, none⟩ = some (.int .i64 (rd_T36 xs i).f2.f0) ∧ w.cell? ⟨(ad.add (i.toNat * 8)).block, (ad.add (i.toNat * 8)).off + 3, none⟩ = some (.int .i64 (rd_T36 xs i).f2.f1) ∧ w.cell? ⟨(ad.add (i.toNat * 8)).block, (ad.add (i.toNat * 8)).off + 4, none⟩ = some (.int .i64 (rd_T36 xs i).f3) ∧ w.cell? ⟨(ad.add (i.toNat * 8)).block, (ad.add (i.toNat * 8)).off + 5, none⟩ = some (.int .i64 (rd_T36 xs i).f4) ∧ w.cell? ⟨(ad.add (i.toNat * 8)).block, (ad.add (i.toNat * 8)).off + 6, none⟩ = some (.int .i64 (rd_T36 xs i).f5) ∧ w.cell? ⟨(ad.add (i.toNat * 8)).block, (ad.add (i.toNat * 8)).off + 7, none⟩ = some (.int .i64 (rd_T36 xs i).f6) := by
  obtain ⟨ad, c, e, _, hK, hc0⟩ := Kd.C_get h z36 i h0 h1
  have hc : ∀ j u, c[j]? = some u → w.cell? (ad.add (i.toNat * 8 + j)) = some u := hc0
  obtain rfl := k36_open hK
  exact ⟨ad, e, hc 0 _ rfl, by rw [← add_field _ _ 1 (by omega)]; exact hc 1 _ rfl, by rw [← add_field _ _ 2 (by omega)]; exact hc 2 _ rfl, by rw [← add_field _ _ 3 (by omega)]; exact hc 3 _ rfl, by rw [← add_field _ _ 4 (by omega)]; exact hc 4 _ rfl, by rw [← add_field _ _ 5 (by omega)]; exact hc 5 _ rfl, by rw [← add_field _ _ 6 (by omega)]; exact hc 6 _ rfl, by rw [← add_field _ _ 7 (by omega)]; exact hc 7 _ rfl⟩

def rd_L5 (xs : List (List S36)) (i : Int) : (List S36) := xs.getD i.toNat ([] : List S36)
theorem at_L5 {w : World} {A : Option Addr} {n : Nat} {xs : List (List S36)} (h : Kd.C (Kd.slice 36 k36) w A n xs) (i : Int) (h0 : 0 ≤ i) (h1 : i < n) : ∃ ad A0 c0, A = some ad ∧ w.cell? (ad.add i.toNat) = some (.slice A0 (rd_L5 xs i).length c0) ∧ (rd_L5 xs i).length ≤ c0 ∧ k36.C w A0 (rd_L5 xs i).length (rd_L5 xs i) := by
  obtain ⟨ad, c, e, _, hK, hc0⟩ := Kd.C_get h ([] : List S36) i h0 h1
  have hc : ∀ j u, c[j]? = some u → w.cell? (ad.add (i.toNat * 1 + j)) = some u := hc0
  obtain ⟨A0, c0, rfl, l0, g0⟩ := hK
  exact ⟨ad, A0, c0, e, by have hq := hc 0 _ rfl; rwa [Nat.mul_one, Nat.add_zero] at hq, l0, g0⟩

def rd_L6 (xs : List (List Int)) (i : Int) : (List Int) := xs.getD i.toNat ([] : List Int)
theorem at_L6 {w : World} {A : Option Addr} {n : Nat} {xs : List (List Int)} (h : Kd.C (Kd.slice 2 (Kd.int .i64)) w A n xs) (i : Int) (h0 : 0 ≤ i) (h1 : i < n) : ∃ ad A0 c0, A = some ad ∧ w.cell? (ad.add i.toNat) = some (.slice A0 (rd_L6 xs i).length c0) ∧ (rd_L6 xs i).length ≤ c0 ∧ (Kd.int .i64).C w A0 (rd_L6 xs i).length (rd_L6 xs i) := by
  obtain ⟨ad, c, e, _, hK, hc0⟩ := Kd.C_get h ([] : List Int) i h0 h1
  have hc : ∀ j u, c[j]? = some u → w.cell? (ad.add (i.toNat * 1 + j)) = some u := hc0
  obtain ⟨A0, c0, rfl, l0, g0⟩ := hK
  exact ⟨ad, A0, c0, e, by have hq := hc 0 _ rfl; rwa [Nat.mul_one, Nat.add_zero] at hq, l0, g0⟩

end Go.Proofs.YtphbepddhhdhmaaDoor.GA
end

section
-- laid by a program of this session (wip/gp.sh)
namespace Go.Proofs.YtphbepddhhdhmaaDoor.GA
open Go.RowKit Go.Proofs.YtphbepddhhdhmaaDoorW.PrintWords Go.Proofs.YtphbepddhhdhmaaDoorW.PrintLast Go.Proofs.YtphbepddhhdhmaaDoorW.PrintMore
attribute [local go_sem] max2_int min2_int max_two min_two max_three min_three max_four min_four   -- for this text's walks alone
set_option linter.unusedVariables false
set_option linter.unusedSimpArgs false

theorem eqA33 (d : Nat) (w : World) (x0 y0 : Int) (x1 y1 : Int) :
    (Op.equalIn (d + 2) 33 (.agg #[.int .i64 x0, .int .i64 x1]) (.agg #[.int .i64 y0, .int .i64 y1])).run Tryd.prog w = .ok (x0 == y0 && (x1 == y1)) w := by
  refine eqA_of Tryd.underlying33 (by kernel_rfl) ?_
  refine eqf_cons (by rfl) (by go_simp; rfl) (by go_simp; rfl) (by go_simp) ?_
  exact eqf_last (by rfl) (by go_simp; rfl) (by go_simp; rfl) (by go_simp)
end Go.Proofs.YtphbepddhhdhmaaDoor.GA
end

section
/-
  The iterator behind trace.Of, trace.On, trace.Outputs: the closures' tests, the walk of 'those'.
-/
set_option linter.unusedVariables false
set_option linter.unusedSimpArgs false
namespace Go.Proofs.YtphbepddhhdhmaaDoor.Hof
open Go.RowKit Go.Shelf Go.Proofs.YtphbepddhhdhmaaDoorW.PrintWords Go.Proofs.YtphbepddhhdhmaaDoorW.PrintLast Go.Proofs.YtphbepddhhdhmaaDoorW.PrintMore GA

/-- The value of an event. -/
abbrev evv (x : S36) : Value := .agg #[.int .u64 x.f0, .int .i64 x.f1, .int .i64 x.f2.f0, .int .i64 x.f2.f1, .int .i64 x.f3, .int .i64 x.f4, .int .i64 x.f5, .int .i64 x.f6]
/-- A closure with captures cb tests an event by p, in every world that has come of w0 by growth; it lays one block. -/
def IsFn (gi : Nat) (cb : Array Value) (p : S36 → Bool) (w0 : World) : Prop :=
  ∀ x W, Below w0.heap.size w0 W → Calls Tryd.prog gi (#[evv x] ++ cb) W fun e w' => e = .returned (.bool (p x)) ∧ ∃ o, w' = W.alloc o
theorem IsFn.below {gi : Nat} {cb : Array Value} {p : S36 → Bool} {w0 w1 : World} (h : IsFn gi cb p w0) (hb : Below w0.heap.size w0 w1) : IsFn gi cb p w1 := fun x W hW => h x W (hb.trans (hW.mono hb.size))

set_option maxHeartbeats 2000000 in
set_option maxRecDepth 100000 in
/-- 'e.G == g': the captured goroutine lies in a box. -/
theorem of1 (Bg : Nat) (g0 g1 : Int) (x : S36) (w : World) (h0 : w.cell? ⟨Bg, 0, none⟩ = some (.int .i64 g0)) (h1 : w.cell? ⟨Bg, 1, none⟩ = some (.int .i64 g1)) :
    Calls Tryd.prog 37 #[evv x, .pointer (some ⟨Bg, 0, none⟩)] w fun e w' => e = .returned (.bool (x.f2.f0 == g0 && (x.f2.f1 == g1))) ∧ ∃ o, w' = w.alloc o := by
  have e33 := eqA33
  have a0 : ∀ o, (w.alloc o).cell? ⟨Bg, 0, none⟩ = some (.int .i64 g0) := fun o => (Below.cell ((Below.refl w.heap.size w).alloc (Nat.le_refl _) o) (World.block_lt_of_cell? w _ h0)).trans h0
  have a1 : ∀ o, (w.alloc o).cell? ⟨Bg, 1, none⟩ = some (.int .i64 g1) := fun o => (Below.cell ((Below.refl w.heap.size w).alloc (Nat.le_refl _) o) (World.block_lt_of_cell? w _ h1)).trans h1
  go_enter Tryd.func37, Tryd.ntmps37
  go_wp2
  go_ret
  exact ⟨rfl, _, rfl⟩
set_option maxHeartbeats 2000000 in
set_option maxRecDepth 100000 in
/-- 'e.Proc == p'. -/
theorem on1 (Bg : Nat) (g0 : Int) (x : S36) (w : World) (h0 : w.cell? ⟨Bg, 0, none⟩ = some (.int .i64 g0)) :
    Calls Tryd.prog 38 #[evv x, .pointer (some ⟨Bg, 0, none⟩)] w fun e w' => e = .returned (.bool (x.f1 == g0)) ∧ ∃ o, w' = w.alloc o := by
  have a0 : ∀ o, (w.alloc o).cell? ⟨Bg, 0, none⟩ = some (.int .i64 g0) := fun o => (Below.cell ((Below.refl w.heap.size w).alloc (Nat.le_refl _) o) (World.block_lt_of_cell? w _ h0)).trans h0
  go_enter Tryd.func38, Tryd.ntmps38
  go_wp2
  go_ret
  exact ⟨rfl, _, rfl⟩
set_option maxHeartbeats 2000000 in
set_option maxRecDepth 100000 in
/-- 'e.Kind == EvOutput'. -/
theorem outputs1 (x : S36) (w : World) :
    Calls Tryd.prog 39 #[evv x] w fun e w' => e = .returned (.bool (x.f3 == 12)) ∧ ∃ o, w' = w.alloc o := by
  go_enter Tryd.func39, Tryd.ntmps39
  go_wp2
  go_ret
  exact ⟨rfl, _, rfl⟩

attribute [local go_sem] Oper.semAt_some
set_option maxRecDepth 100000 in
set_option maxHeartbeats 2000000 in
/-- those(l, is): both are boxed; the function value captures the boxes. -/
theorem those_in (F : Fence) (n : Nat) (h5 : F.fn 36) (hro : F.round = none) (a : Option Addr) (len cap gi : Nat) (cb : Array Value) (w : World) :
    CallsIn F n Tryd.prog 36 #[.slice a len cap, .func (.func gi) #[] cb] w fun e w' =>
      e = .returned (.func (.func 46) #[] #[.pointer (some ⟨w.heap.size, 0, none⟩), .pointer (some ⟨w.heap.size + 1, 0, none⟩)]) ∧ w' = (w.alloc (.cells #[.slice a len cap] 22)).alloc (.cells #[.func (.func gi) #[] cb] 53) := by
  refine callsIn_of_wp Tryd.func36 rfl h5 ?_ hro
  simp only [Tryd.ntmps36, List.size_toArray, List.length_cons, List.length_nil, Nat.reduceAdd, Nat.reduceSub, Array.replicate_succ, Array.replicate_zero, List.push_toArray, List.append_toArray, List.nil_append, List.cons_append]
  gi_wp2
  go_ret
  exact ⟨rfl, rfl⟩
end Go.Proofs.YtphbepddhhdhmaaDoor.Hof
end

section
/-
  The walk of 'those': it yields the events of which the test is true, in their order.
-/
set_option linter.unusedVariables false
set_option linter.unusedSimpArgs false
namespace Go.Proofs.YtphbepddhhdhmaaDoor.Hof
open Go.RowKit Go.Shelf Go.Proofs.YtphbepddhhdhmaaDoorW.PrintWords Go.Proofs.YtphbepddhhdhmaaDoorW.PrintLast Go.Proofs.YtphbepddhhdhmaaDoorW.PrintMore GA
attribute [local go_sem] Oper.semAt_some

/-- A box with an event in it. -/
abbrev boxE (x : S36) : Obj := .cells #[.int .u64 x.f0, .int .i64 x.f1, .int .i64 x.f2.f0, .int .i64 x.f2.f1, .int .i64 x.f3, .int .i64 x.f4, .int .i64 x.f5, .int .i64 x.f6] 36
set_option maxRecDepth 100000 in
set_option maxHeartbeats 4000000 in
theorem those_stops (n : Nat) (hn : 3 ≤ n) (Bl Bi gi : Nat) (cb : Array Value) (p : S36 → Bool) (A : Option Addr) (cap : Nat) (xs : List S36) (wS : World)
    (hl : wS.cell? ⟨Bl, 0, none⟩ = some (.slice A xs.length cap)) (hi : wS.cell? ⟨Bi, 0, none⟩ = some (.func (.func gi) #[] cb)) (hC : Kd.C k36 wS A xs.length xs) (hIs : IsFn gi cb p wS)
    (eg : ∀ args w, (callFunc gi args).run Tryd.prog w = .ok (.enter gi args) w) :
    SeqStopsK Fence.wide n Tryd.prog 46 #[.pointer (some ⟨Bl, 0, none⟩), .pointer (some ⟨Bi, 0, none⟩)] (fun x : S36 => #[evv x]) (Below wS.heap.size) (fun ys => ys = xs.filter p) (fun _ => True) xs.length wS := fun l J Jx W hW hJ hJx hY h0 => by
  have hl' := (hW.cell (World.block_lt_of_cell? wS _ hl)).trans hl
  refine callsIn_of_wp Tryd.func46 rfl trivial ?_ rfl
  simp only [Tryd.ntmps46, List.size_toArray, List.length_cons, List.length_nil, Nat.reduceAdd, Nat.reduceSub, Array.replicate_succ, Array.replicate_zero, List.push_toArray, List.append_toArray, List.nil_append, List.cons_append]
  gi_wp2
  gi_loopw [8] (fun v wr => ∃ i : Int, 0 ≤ i ∧ i ≤ (xs.length : Int) ∧ v = .int .i64 i ∧ J ((xs.take i.toNat).filter p) wr ∧ Below wS.heap.size wS wr) (fun v _ => xs.length - (intOf v).toNat)
  case atStart => exact ⟨0, by omega, by omega, rfl, h0, hW⟩
  case round =>
    obtain ⟨i, hi0, hi1, rfl, hJs, hnx⟩ := hrel
    have hi' := (hnx.cell (World.block_lt_of_cell? wS _ hi)).trans hi
    by_cases hlt : i < (xs.length : Int)
    · obtain ⟨ad, rfl, x0, x1, x2, x3, x4, x5, x6, x7⟩ := at_T36 hC i hi0 hlt
      replace x0 := (hnx.cell (World.block_lt_of_cell? wS _ x0)).trans x0
      replace x1 := (hnx.cell (World.block_lt_of_cell? wS _ x1)).trans x1
      replace x2 := (hnx.cell (World.block_lt_of_cell? wS _ x2)).trans x2
      replace x3 := (hnx.cell (World.block_lt_of_cell? wS _ x3)).trans x3
      replace x4 := (hnx.cell (World.block_lt_of_cell? wS _ x4)).trans x4
      replace x5 := (hnx.cell (World.block_lt_of_cell? wS _ x5)).trans x5
      replace x6 := (hnx.cell (World.block_lt_of_cell? wS _ x6)).trans x6
      replace x7 := (hnx.cell (World.block_lt_of_cell? wS _ x7)).trans x7
      have hi2 : ∀ o, (wr.alloc o).cell? ⟨Bi, 0, none⟩ = some (.func (.func gi) #[] cb) := fun o => (Below.cell ((Below.refl wr.heap.size wr).alloc (Nat.le_refl _) o) (World.block_lt_of_cell? wr _ hi')).trans hi'
      have hJa : ∀ {zs w2} o, J zs w2 → J zs (w2.alloc o) := fun o hj => hJ _ _ _ none hj (World.grownBy_alloc _ o none) (fun r e => by cases e)
      have hfg : Fence.wide.fn gi := trivial
      have h1n : 1 ≤ n := by omega
      have hlen : ((xs.take i.toNat).filter p).length < xs.length := by
        have h1 := List.length_filter_le p (xs.take i.toNat)
        rw [List.length_take] at h1
        omega
      have hw64 : wrap64 (i + 1) = i + 1 := IntWalk.wrap64_in _ (by have := (Kd.C_max hC); omega)
      have htk : ((xs.take (i + 1).toNat)) = xs.take i.toNat ++ [rd_T36 xs i] := by
        rw [show (i + 1).toNat = i.toNat + 1 from by omega, List.take_add_one, List.getElem?_eq_getElem (show i.toNat < xs.length by omega)]
        unfold rd_T36
        rw [List.getD_eq_getElem?_getD, List.getElem?_eq_getElem (show i.toNat < xs.length by omega)]
        rfl
      by_cases hp : p (rd_T36 xs i) = true
      · gi_wp2_with (gi_at_fn gi; refine (callsIn_wide.2 (hIs (rd_T36 xs i) (wr.alloc (boxE (rd_T36 xs i))) (hnx.alloc hnx.size _))).mono ?_; rintro e w' ⟨rfl, o, rfl⟩; rw [hp]; obtain ⟨fn, tmps, assign, body, hy, hR⟩ := hY _ (rd_T36 xs i) ((wr.alloc (boxE (rd_T36 xs i))).alloc o) (hJa o (hJa (boxE (rd_T36 xs i)) hJs)) hlen)
        refine hR.mono ?_
        rintro e W3 (⟨rfl, hJ3, hk3⟩ | ⟨rfl, hJx3⟩)
        · gi_wp2
          go_roundw
          case rel =>
            refine ⟨i + 1, by omega, by omega, by rw [hw64], ?_, (((hnx.alloc hnx.size _).alloc (by simp; have := hnx.size; omega) _).trans hk3)⟩
            rw [htk, List.filter_append, List.filter_cons_of_pos hp]
            exact hJ3
          case measure => simp [intOf, hw64]; omega
        · gi_wp2
          refine bodyPost_ret (results_none rfl _ _ _) rfl ?_
          exact ⟨⟨_, rfl⟩, .inr ⟨_, trivial, hJx3⟩⟩
      · replace hp : p (rd_T36 xs i) = false := by simpa using hp
        gi_wp2_with (gi_at_fn gi; refine (callsIn_wide.2 (hIs (rd_T36 xs i) (wr.alloc (boxE (rd_T36 xs i))) (hnx.alloc hnx.size _))).mono ?_; rintro e w' ⟨rfl, o, rfl⟩; rw [hp])
        refine ⟨fun f hf => (by cases hf), ?_⟩
        gi_wp2
        go_roundw
        case rel =>
          refine ⟨i + 1, by omega, by omega, by rw [hw64], ?_, (((hnx.alloc hnx.size _).alloc (by simp; have := hnx.size; omega) _))⟩
          rw [htk, List.filter_append, List.filter_cons_of_neg (by simp [hp])]
          simp only [List.filter_nil, List.append_nil]
          exact hJa o (hJa _ hJs)
        case measure => simp [intOf, hw64]; omega
    · obtain rfl : i = xs.length := by omega
      gi_wp2
      go_end0
      exact ⟨⟨_, rfl⟩, .inl (by simpa using hJs)⟩
end Go.Proofs.YtphbepddhhdhmaaDoor.Hof
end

section
/-
  slices.AppendSeq and slices.Collect at events; trace.Of, trace.On, trace.Outputs.
-/
set_option linter.unusedVariables false
set_option linter.unusedSimpArgs false
namespace Go.Proofs.YtphbepddhhdhmaaDoor.Hof
open Go.RowKit Go.Shelf Go.Proofs.YtphbepddhhdhmaaDoorW.PrintWords Go.Proofs.YtphbepddhhdhmaaDoorW.PrintLast Go.Proofs.YtphbepddhhdhmaaDoorW.PrintMore GA
attribute [local go_sem] Oper.semAt_some

/-- The cells of an event. -/
def evc (x : S36) : List Value := [.int .u64 x.f0, .int .i64 x.f1, .int .i64 x.f2.f0, .int .i64 x.f2.f1, .int .i64 x.f3, .int .i64 x.f4, .int .i64 x.f5, .int .i64 x.f6]
theorem reps36 (w : World) (base : Nat) (ok : Nat → Prop) : ∀ xs : List S36, Reps (k36.M w base ok) 8 xs (xs.flatMap evc) := by
  have h : ∀ l : List S36, Reps (k36.M w base ok) 8 l.reverse (l.reverse.flatMap evc) := by
    intro l
    induction l with
    | nil => exact Reps.none _ _
    | cons x l ih =>
      rw [List.reverse_cons, List.flatMap_append]
      exact ih.snoc (by simpa [evc] using k36_mkM w base ok x) (by simp [evc])
  intro xs
  simpa using h xs.reverse
theorem R36_of {w : World} {base : Nat} {v : Value} {xs : List S36} (h : w.ownsRow base 36 8 v xs.length (xs.flatMap evc)) : Kd.R k36 36 w base (fun _ => True) v xs :=
  ⟨fun _ _ => trivial, xs.flatMap evc, h, reps36 _ _ _ xs⟩
theorem box_new (W : World) (x : S36) : ∀ j u, (evc x)[j]? = some u → (W.alloc (boxE x)).cell? ((⟨W.heap.size, 0, none⟩ : Addr).add j) = some u := by
  intro j u h
  have h2 : ∀ j, (⟨W.heap.size, 0, none⟩ : Addr).add j = ⟨W.heap.size, j, none⟩ := fun j => by cases j <;> simp [Addr.add]
  rw [h2, blk_cell (blk_new W (boxE x)) j]
  simpa [evc] using h
theorem boxE_own (B : Nat) (x : S36) : Own (fun (_ : Unit) W => W.heap[B]? = some (boxE x)) := fun s X Y row hs hg hrow =>
  (hg.block B (Array.getElem?_eq_some_iff.1 hs).1 (fun e' => by obtain ⟨o, ho, hc⟩ := hrow B e'.symm; rw [hs] at ho; cases ho; cases hc)).trans hs

set_option maxRecDepth 100000 in
set_option maxHeartbeats 4000000 in
theorem appendSeq_in (n : Nat) (hn : 6 ≤ n) (gf : Nat) (lb : Array Value) (S Sp : List S36 → Prop) (N : Nat) (hN : N * 64 ≤ 140737488355328) (w : World)
    (eg : ∀ args w, (callFunc gf args).run Tryd.prog w = .ok (.enter gf args) w)
    (hseq : SeqStopsK Fence.wide (n - 1) Tryd.prog gf lb (fun x : S36 => #[evv x]) (Below w.heap.size) S Sp N w) :
    CallsIn Fence.wide n Tryd.prog 45 #[.slice none 0 0, .func (.func gf) #[] lb] w fun e W' => ∃ v ys, e = .returned v ∧ S ys ∧ Kd.R k36 36 W' w.heap.size (fun _ => True) v ys ∧ Below w.heap.size w W' := by
  have h1 : 1 ≤ n := by omega
  have hNm : N ≤ maxLen := by simp only [maxLen]; omega
  obtain ⟨i0, hi, hz0, hz1, hz2⟩ := info_parts info36
  refine callsIn_of_wp_marks Tryd.func45 rfl trivial ?_ rfl
  simp only [Tryd.ntmps45, List.size_toArray, List.length_cons, List.length_nil, Nat.reduceAdd, Nat.reduceSub, Array.replicate_succ, Array.replicate_zero, List.push_toArray, List.append_toArray, List.nil_append, List.cons_append]
  gi_wp2
  have bS := Boxed.new w 22 (.slice none 0 0)
  have hB0 : Below w.heap.size w (w.alloc (.cells #[.slice none 0 0] 22)) := (Below.refl _ w).alloc (Nat.le_refl _) _
  have hsz : (w.alloc (.cells #[.slice none 0 0] 22)).heap.size = w.heap.size + 1 := by simp
  refine wpIn_rangeFunc_ownH rfl h1 (gf := gf) (lb := lb) rfl trivial eg hseq belowK_t (belowK_b (by simp)) hB0 (fun _ => rfl)
    (fun pre W => (∃ v, Boxed W w.heap.size 22 v ∧ W.ownsRow w.heap.size 36 8 v pre.length (pre.flatMap evc) ∧ True) ∧ Below w.heap.size w W)
    (fun _ _ _ => False)
    (OwnFrom.and (Own.from (holdsRow_own w.heap.size w.heap.size 22 36 8 (fun pre : List S36 => pre.length) (fun pre => pre.flatMap evc) (fun pre v => True)) _) (ownFrom_below (Nat.le_refl _) (by simp)))
    (fun _ _ _ _ _ hs _ _ => hs)
    ⟨⟨_, bS, World.ownsRow_nil _ _ _ _, trivial⟩, hB0⟩
    (fun x a' W => ∃ Bx, w.heap.size < Bx ∧ W.heap[Bx]? = some (boxE x) ∧ a' = { tmps := #[.slice none 0 0, .func (.func gf) #[] lb, .pointer (some ⟨w.heap.size, 0, none⟩), undef, .slice none 0 0, .pointer (some ⟨Bx, 0, none⟩), .func (.func gf) #[] lb, evv x, undef, undef, undef, undef, undef], defers := [] })
    (fun x a' _ X Y row hs hg hr => by obtain ⟨Bx, h1, h2, h3⟩ := hs; exact ⟨Bx, h1, boxE_own Bx x () X Y row h2 hg (fun r e => (hr r e).2), h3⟩)
    ?assign ?body ?done ?stop
  case assign =>
    rintro l pre x W K ⟨⟨v, bS1, hrow, _⟩, hB1⟩ hK
    gi_wp2
    exact hK _ _ ((KeepsOthers.alloc _ _).from _) ((Below.refl _ W).alloc hB1.size _) ⟨⟨v, bS1.alloc _, hrow.alloc _, trivial⟩, hB1.alloc hB1.size _⟩ ⟨W.heap.size, bS1.lt, blk_new W _, rfl⟩
  case body =>
    rintro l pre x a' W hl ⟨r, hr⟩ ⟨⟨v, hv, hrow, _⟩, hB⟩ ⟨Bx, hBx, bX, rfl⟩ hlt
    have hc := hv.cell
    have x0 := (blk_cell bX 0).trans rfl
    have x1 := (blk_cell bX 1).trans rfl
    have x2 := (blk_cell bX 2).trans rfl
    have x3 := (blk_cell bX 3).trans rfl
    have x4 := (blk_cell bX 4).trans rfl
    have x5 := (blk_cell bX 5).trans rfl
    have x6 := (blk_cell bX 6).trans rfl
    have x7 := (blk_cell bX 7).trans rfl
    gi_wp2_with (gi_at_builtin; refine wpListIn_append_own _ rfl _ _ 22 rfl w.heap.size 36 i0 (evv z36) 8 64 Tryd.underlying22 hi hz0 hz1 hz2 rfl (by decide) _ _ _ rfl (hrow.alloc _) ⟨W.heap.size, 0, none⟩ 1 1 (evc x) rfl rfl (box_new _ _) (by simp [evc, Value.oneCell']) (by omega) (by omega) (by have := hB.size; simp; omega) ?_; intro v' w1 hown' hgrow _; obtain ⟨g', cap', rfl⟩ := ownsRow_succ hown'; obtain ⟨hv1, hv2, hr2, hk2, hb2⟩ := hv.appended (by decide) hrow hB.size (Nat.le_refl _) hown' hgrow; have hc1 := hv1.cell; have hf1 := hv1.frozen)
    exact ⟨hk2.from _, hb2, ⟨⟨_, hv2, by simpa using hr2, trivial⟩, hB.trans hb2⟩⟩
  case done =>
    rintro D ys W hD hS ⟨⟨v, hv, hrow, _⟩, hB⟩ hK
    have hc := hv.cell
    gi_wp2
    refine ⟨by simp, .inl ⟨_, _, rfl, run_takeDeferred hK, ?_⟩⟩
    exact ⟨_, results_tmp rfl _ _ _, v, ys, rfl, hS, R36_of (ownsRow_putObj hrow _ hK rfl), hB.trans (belowK_b (w := w) (Nat.le_refl _) W D _ _ (by simp at hD; omega) hK rfl rfl)⟩
  case stop =>
    rintro D c pre W _ _ h _
    exact h.elim
end Go.Proofs.YtphbepddhhdhmaaDoor.Hof
end

section
/-
  What trace.Name comes to, where the table of names holds its texts.
-/
set_option linter.unusedVariables false
namespace Go.Proofs.YtphbepddhhdhmaaDoor.Hname
open Go.RowKit Go.Proofs.YtphbepddhhdhmaaDoorW.PrintWords

set_option maxHeartbeats 1000000 in
set_option maxRecDepth 100000 in
theorem name_in (k : Nat) (hk : k < 36) (w : World) (hL : Laid.LaidNames w) :
    Calls Tryd.prog 12 #[.int .i64 (k + 1)] w fun e w' => e = .returned (.tuple #[.string (Laid.nameAt k), .int .i64 0]) ∧ Drawn0 w w' := by
  have hc := hL k hk
  have g0 : (0 : Int) ≤ k := by omega
  have g1 : (k : Int) < 36 := by omega
  clear hL
  generalize Laid.nameAt k = s at hc ⊢
  go_enter Tryd.func12, Tryd.ntmps12
  go_wp2
  go_ret2
  exact ⟨rfl, by repeat (first | exact Drawn0.refl _ | apply Drawn0.step)⟩
set_option maxHeartbeats 1000000 in
set_option maxRecDepth 100000 in
theorem name_out (n : Int) (h : n < 1 ∨ 36 < n) (w : World) :
    Calls Tryd.prog 12 #[.int .i64 n] w fun e w' => e = .returned (.tuple #[.string ⟨#[]⟩, .int .i64 250]) ∧ Drawn0 w w' := by
  rcases h with h | h
  all_goals
    go_enter Tryd.func12, Tryd.ntmps12
    go_wp2
    go_ret2
    exact ⟨rfl, by repeat (first | exact Drawn0.refl _ | apply Drawn0.step)⟩
end Go.Proofs.YtphbepddhhdhmaaDoor.Hname
end

section
/-
  strconv.AppendUint at base 10; a row of bytes of the call's own that has grown (Grew); appends as steps of a region that draws.
-/
set_option linter.unusedVariables false
set_option linter.unusedSimpArgs false
namespace Go.Proofs.YtphbepddhhdhmaaDoor.Hof
open Go.RowKit Go.Shelf Go.Proofs.YtphbepddhhdhmaaDoorW.PrintWords Go.Proofs.YtphbepddhhdhmaaDoorW.PrintLast Go.Proofs.YtphbepddhhdhmaaDoorW.PrintMore GA

abbrev Tab (w : World) : Prop := Lib.TabIs Tryd.prog w "internal/strconv.uint64pow10" .u64 Lib.pow10Tab
abbrev TabB (B : Nat) (w : World) : Prop := Lib.TabBelow Tryd.prog B w "internal/strconv.uint64pow10" .u64 Lib.pow10Tab

set_option maxHeartbeats 2000000 in
set_option maxRecDepth 100000 in
theorem appendUint_calls (B n u : Nat) (hu64 : u < 18446744073709551616) (sv : Value) (xs : List Value) (w : World) (hown : w.ownsRow B 5 1 sv n xs) (hBw : B ≤ w.heap.size) (hlim : n + 20 ≤ 140737488355328) (htab : Tab w) :
    Calls Tryd.prog 47 #[sv, .int .u64 u, .int .i64 10] w fun e w' => ∃ v', e = .returned v' ∧ w'.ownsRow B 5 1 v' (n + (Lib.decDigits u).length) (xs ++ Lib.byteCells (Lib.decDigits u)) ∧ Below B w w' ∧ Lib.OthersKept 5 none w w' := by
  go_enter Tryd.func47, Tryd.ntmps47
  go_wp2_with (go_at_call 59; refine (Tryd.internal_strconv_AppendUint_10 B n u hu64 sv xs w hown hBw hlim htab).mono ?_; rintro e w1 ⟨v1, rfl, hown1, hnx1, hok1⟩)
  go_ret
  exact ⟨_, rfl, hown1, hnx1, hok1⟩

section
variable {P : Program} {ops : Array Oper} {o : Oper} {a : Act} {w : World} {K : Act → World → Prop} {Q : Exit → Act → World → Prop} {E : Prop}
/-- append of one byte to a row of the call's own, as a step of a region that draws. -/
theorem step_byte (hgd : o.guard = none) (s x : Operand) (t : TypeId) (ho : o.op = .call { callee := .builtin .append, args := #[s, x], argTypes := #[t, t] })
    (base : Nat) (i : TypeInfo) (ht : P.underlying t = some (.slice 5)) (hi : P.info? 5 = some i) (hz : i.zero = some (.int .u8 0)) (hsize : i.size = 1) (hby : i.bytes = 1)
    (v : Value) (n : Nat) (xs : List Value) (hs : a.eval s = v) (hown : w.ownsRow base 5 1 v n xs) (b : Value) (hx : a.eval x = .slice (some ⟨w.heap.size, 0, none⟩) 1 1) (h1 : b.oneCell' = true)
    (h63 : n + 1 ≤ maxLen) (hbytes : n + 1 ≤ 140737488355328) (hbase : base ≤ w.heap.size)
    (h : ∀ v' w', w'.ownsRow base 5 1 v' (n + 1) (xs ++ [b]) → (w.alloc (.cells #[b] 5)).grownBy w' v.ownBlock → K (a.put o.dst v') w') :
    if Region.wanted o (yielded ops a.tmps) = true then Oper.wp P o a (w.alloc (.cells #[b] 5)) K Q else E := by
  have hw : Region.wanted o (yielded ops a.tmps) = true := by simp [Region.wanted, hgd]
  rw [if_pos hw]
  obtain ⟨v', w', hr, h2, h3, h4⟩ := run_append_own (P := P) (w.alloc (.cells #[b] 5)) base t o.type 5 i (.int .u8 0) 1 1 ht hi hz hsize hby rfl (by decide) v n xs (hown.alloc _) ⟨w.heap.size, 0, none⟩ 1 1 [b] rfl (cell_one_new w b 5) (by simpa using h1) h63 (by omega) (by simp; omega)
  unfold Oper.wp execOp
  simp only [ho, resolve, invoke, builtin, Sem.run_bind, Sem.run_pure, Result.andThen_ok, List.map_toArray, List.map_cons, List.map_nil, hs, hx, hr]
  exact h v' w' h2 h3
/-- append of a string to it. -/
theorem step_str (hgd : o.guard = none) (s x : Operand) (t u : TypeId) (ho : o.op = .call { callee := .builtin .append, args := #[s, x], argTypes := #[t, u] })
    (base : Nat) (i : TypeInfo) (ht : P.underlying t = some (.slice 5)) (hu : P.underlying u = some .string) (hi : P.info? 5 = some i) (hz : i.zero = some (.int .u8 0)) (hsize : i.size = 1) (hby : i.bytes = 1)
    (v : Value) (n : Nat) (xs : List Value) (hs : a.eval s = v) (hown : w.ownsRow base 5 1 v n xs) (y : ByteArray) (hx : a.eval x = .string y)
    (h63 : n + y.size ≤ maxLen) (hbytes : n + y.size ≤ 140737488355328) (hbase : base ≤ w.heap.size)
    (h : ∀ v' w', w'.ownsRow base 5 1 v' (n + y.size) (xs ++ Lib.strCells y) → w.grownBy w' v.ownBlock → K (a.put o.dst v') w') :
    if Region.wanted o (yielded ops a.tmps) = true then Oper.wp P o a w K Q else E := by
  have hw : Region.wanted o (yielded ops a.tmps) = true := by simp [Region.wanted, hgd]
  rw [if_pos hw]
  obtain ⟨v', w', hr, h2, h3, h4⟩ := Lib.run_append_own_string (P := P) w base t u o.type 5 i ht hu hi hz hsize hby v n xs hown y h63 hbytes hbase
  unfold Oper.wp execOp
  simp only [ho, resolve, invoke, builtin, Sem.run_bind, Sem.run_pure, Result.andThen_ok, List.map_toArray, List.map_cons, List.map_nil, hs, hx, hr]
  exact h v' w' h2 h3
end
/-- Numbers, a blank ahead of each. -/
def numsB (l : List Int) : List UInt8 := l.flatMap fun n => 32 :: Lib.itoa n
/-- A line. -/
def lineOf (u : Nat) (p g0 g1 : Int) (q : Nat) (a b c : Int) : List UInt8 := Lib.decDigits u ++ numsB [p, g0, g1] ++ (32 :: (Laid.nameAt q).data.toList) ++ numsB [a, b, c]
def I64 (n : Int) : Prop := -9223372036854775808 ≤ n ∧ n ≤ 9223372036854775807
theorem numsB_one (l : List Int) (x : Int) : numsB (l ++ [x]) = numsB l ++ 32 :: Lib.itoa x := by simp [numsB]
/-- A row of bytes of the call's own that holds m bytes more than what came in. -/
def Grew (B n : Nat) (xs : List Value) (w wr : World) (v : Value) (m : List UInt8) : Prop := wr.ownsRow B 5 1 v (n + m.length) (xs ++ Lib.byteCells m) ∧ Below B w wr ∧ Lib.OthersKept 5 none w wr
theorem Grew.alloc {B n : Nat} {xs : List Value} {w wr : World} {v : Value} {m : List UInt8} (h : Grew B n xs w wr v m) (hBw : B ≤ w.heap.size) (o : Obj) : Grew B n xs w (wr.alloc o) v m :=
  ⟨h.1.alloc _, h.2.1.alloc (Nat.le_trans hBw h.2.1.size) _, h.2.2.alloc _⟩
theorem Grew.drew {B n : Nat} {xs : List Value} {w wr : World} {v : Value} {m : List UInt8} (h : Grew B n xs w wr v m) : Grew B n xs w wr.drew v m := ⟨h.1.drew, h.2.1.drew, h.2.2.drew⟩
theorem Grew.app {B n : Nat} {xs : List Value} {w wr w2 : World} {v v2 : Value} {m b : List UInt8} {o : Obj} (h : Grew B n xs w wr v m) (hBw : B ≤ w.heap.size)
    (hown : w2.ownsRow B 5 1 v2 (n + m.length + b.length) (xs ++ Lib.byteCells m ++ Lib.byteCells b)) (hg : (wr.alloc o).grownBy w2 v.ownBlock) : Grew B n xs w w2 v2 (m ++ b) := by
  refine ⟨by rw [List.length_append, Lib.byteCells_append, ← List.append_assoc, ← Nat.add_assoc]; exact hown, ?_, ?_⟩
  · have := (h.alloc hBw o).2.1
    exact this.grown hg (Nat.le_trans hBw this.size) (fun k hk => (h.1.lt k hk).1)
  · exact (h.alloc hBw o).2.2.grown hg (fun k hk => by
      rcases h.1.2 with ⟨rfl, _⟩ | ⟨g, cap, cur, rfl, hg2, hh, _⟩
      · simp [Value.ownBlock] at hk
      · obtain rfl : g = k := by simpa [Value.ownBlock] using hk
        exact ⟨cur, (0, 0), (Below.heap_alloc wr o g (Array.getElem?_eq_some_iff.1 hh).1).trans hh⟩)
theorem Grew.keep {B n : Nat} {xs : List Value} {w wr w2 : World} {v : Value} {m : List UInt8} {o : Obj} (h : Grew B n xs w wr v m) (hg : (wr.alloc o).grownBy w2 v.ownBlock)
    {k : Nat} {cs : Array Value} {t : TypeId} (hk : wr.heap[k]? = some (.cells cs t (0, 0))) (ht : t ≠ 5) : w2.heap[k]? = some (.cells cs t (0, 0)) :=
  blk_grown (blk_alloc hk o) hg (fun e => by
    rcases h.1.2 with ⟨rfl, _⟩ | ⟨g, cap, cur, rfl, _, hh, _⟩
    · simp [Value.ownBlock] at e
    · obtain rfl : k = g := by simpa [Value.ownBlock] using e
      rw [hk] at hh
      cases hh
      exact ht rfl)
theorem Grew.call {B n : Nat} {xs : List Value} {w wr w2 : World} {v v2 : Value} {m b : List UInt8} (h : Grew B n xs w wr v m)
    (hown : w2.ownsRow B 5 1 v2 (n + m.length + b.length) (xs ++ Lib.byteCells m ++ Lib.byteCells b)) (hb : Below B wr w2) (hk : Lib.OthersKept 5 none wr w2) : Grew B n xs w w2 v2 (m ++ b) :=
  ⟨by rw [List.length_append, Lib.byteCells_append, ← List.append_assoc, ← Nat.add_assoc]; exact hown, h.2.1.trans hb, h.2.2.trans hk⟩
end Go.Proofs.YtphbepddhhdhmaaDoor.Hof
end
