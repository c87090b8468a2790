import Derived.Test.YthjfmlehkcccfaaRows
import Derived.Test.YthjfmlehkcccfaaWMore
import Derived.ChangeArms
import Derived.DataReads
import Derived.OpenShut
import Derived.DataElems
import Derived.SizedLaws
import Derived.ProofKit
import Derived.Test.YthjfmlehkcccfaaMSafe1
import Derived.Test.YthjfmlehkcccfaaMSafe0
section
/-
  From what an argument reads as (the row's words) to the kinds in which the contracts speak: one law a make of type.
-/
set_option linter.unusedVariables false
set_option linter.unusedSimpArgs false
namespace Go.Proofs.Ythjfmlehkcccfaa.Opn
open Go.Proofs.YthjfmlehkcccfaaW.PrintWords

/-- Whatever reads as data at type t is of kind d, and G says what is known of its size. -/
structure Opens {α : Type} (P : Program) (t : TypeId) (d : Kd α) (G : α → Nat → Prop) : Prop where
  size : P.cellsOf t = d.sz
  mono : ∀ x m n, m ≤ n → G x m → G x n
  opens : ∀ {H : Type} (enc : TypeId × Value → H) (w : World) (base : Nat) (spare : Nat → Bool) (held : Bool) (fuel : Nat) (cs : List Value) (x : DataW H × List MemPlace),
    DataW.trod enc P w base spare held fuel t cs = some x → (∀ n ∈ x.1.weights P t, n ≤ reachBytes) → ∃ v, d.K w v cs ∧ G v (Rows.uptoBulk x.1)

variable {P : Program} {t e : TypeId}
def GInt (k : IntKind) (v : Int) (_ : Nat) : Prop := (Lit.int k v).wf = true
def GBool (_ : Bool) (_ : Nat) : Prop := True
def GStr (s : ByteArray) (n : Nat) : Prop := s.size ≤ 140737488351232 ∧ s.size < n
def GSl {α : Type} (B : Nat) (G : α → Nat → Prop) (xs : List α) (n : Nat) : Prop := xs.length * B ≤ 140737488351232 ∧ xs.length ≤ maxLen ∧ xs.length < n ∧ ∀ x ∈ xs, G x n

theorem opens_int {k : IntKind} (ht : P.underlying t = some (.int k)) (hc : P.cellsOf t = 1) : Opens P t (Kd.int k) (GInt k) where
  size := hc
  mono := fun _ _ _ _ h => h
  opens := by
    intro H enc w base spare held fuel cs x h _
    obtain ⟨n, rfl, rfl, hw⟩ := DataW.trod_int ht h
    exact ⟨n, rfl, hw⟩
theorem opens_bool (ht : P.underlying t = some .bool) (hc : P.cellsOf t = 1) : Opens P t Kd.bool GBool where
  size := hc
  mono := fun _ _ _ _ h => h
  opens := by
    intro H enc w base spare held fuel cs x h _
    obtain ⟨b, rfl, rfl⟩ := DataW.trod_bool ht h
    exact ⟨b, rfl, trivial⟩
theorem opens_string (ht : P.underlying t = some .string) (hc : P.cellsOf t = 1) : Opens P t Kd.string GStr where
  size := hc
  mono := fun _ _ _ hmn h => ⟨h.1, Nat.lt_of_lt_of_le h.2 hmn⟩
  opens := by
    intro H enc w base spare held fuel cs x h hw
    obtain ⟨s, rfl, rfl, _⟩ := DataW.trod_string ht h
    have h1 := hw s.data.toList.length (by simp [DataW.weights])
    refine ⟨s, rfl, ?_, ?_⟩
    · simpa [reachBytes] using h1
    · simp [Rows.uptoBulk]
theorem weights_all {H : Type} {P : Program} {e : TypeId} : ∀ {l : List (DataW H)} {d : DataW H}, d ∈ l → ∀ n ∈ d.weights P e, n ∈ DataW.weightsAll P e l
  | a :: l, d, hd, n, hn => by
    rw [DataW.weightsAll]
    rcases List.mem_cons.1 hd with rfl | hd
    · exact List.mem_append_left _ hn
    · exact List.mem_append_right _ (weights_all hd n hn)
theorem bulk_all {H : Type} : ∀ {l : List (DataW H)} {d : DataW H}, d ∈ l → Rows.uptoBulk d ≤ Rows.uptoBulkAll l
  | a :: l, d, hd => by
    rw [Rows.uptoBulkAll]
    rcases List.mem_cons.1 hd with rfl | hd
    · omega
    · have := bulk_all hd; omega
theorem bulk_pos {H : Type} (d : DataW H) : 1 ≤ Rows.uptoBulk d := by
  cases d with
  | lit l => cases l <;> simp [Rows.uptoBulk]
  | _ => simp [Rows.uptoBulk]
theorem bulk_len {H : Type} : ∀ l : List (DataW H), l.length ≤ Rows.uptoBulkAll l
  | [] => by simp
  | a :: l => by rw [Rows.uptoBulkAll]; have := bulk_len l; have := bulk_pos a; simp; omega
theorem choice_list {α : Type} {R : Nat → α → Prop} : ∀ (n : Nat), (∀ i < n, ∃ v, R i v) → ∃ l : List α, l.length = n ∧ ∀ i v, l[i]? = some v → R i v
  | 0, _ => ⟨[], rfl, fun i v h => by simp at h⟩
  | n + 1, h => by
    obtain ⟨l, hl, hr⟩ := choice_list n (fun i hi => h i (by omega))
    obtain ⟨v, hv⟩ := h n (by omega)
    refine ⟨l ++ [v], by simp [hl], fun i u hu => ?_⟩
    rcases Nat.lt_or_ge i l.length with hi | hi
    · rw [List.getElem?_append_left hi] at hu
      exact hr i u hu
    · rw [List.getElem?_append_right hi] at hu
      have h0 : i - l.length = 0 := by
        rcases Nat.eq_zero_or_pos (i - l.length) with h0 | h0
        · exact h0
        · rw [List.getElem?_eq_none (by simp; omega)] at hu; cases hu
      rw [h0] at hu
      obtain rfl : v = u := by simpa using hu
      obtain rfl : i = n := by omega
      exact hv
theorem opens_slice {α : Type} {d : Kd α} {G : α → Nat → Prop} {B : Nat} (he : Opens P e d G) (ht : P.underlying t = some (.slice e)) (hc : P.cellsOf t = 1) (hB : P.bytesOf e = B) : Opens P t (Kd.slice e d) (GSl B G) where
  size := hc
  mono := fun _ _ _ hmn h => ⟨h.1, h.2.1, Nat.lt_of_lt_of_le h.2.2.1 hmn, fun x hx => he.mono _ _ _ hmn (h.2.2.2 x hx)⟩
  opens := by
    intro H enc w base spare held fuel cs x h hw
    rcases DataW.trod_slice ht h with ⟨rfl, rfl⟩ | ⟨a, len, cap, elems, rest, n, rfl, rfl, rfl, hb, hl, hm, hlen, hel, _, _⟩
    · exact ⟨[], ⟨none, 0, rfl, Nat.le_refl _, Kd.C_nil d w⟩, by simp, by simp, by simp [Rows.uptoBulk], by simp⟩
    · simp only [DataW.weights, ht] at hw
      have hbulk : Rows.uptoBulkAll (elems.map (·.1)) < Rows.uptoBulk (DataW.slice (elems.map (·.1)) (rest.map (·.1))) := by rw [Rows.uptoBulk]; omega
      have each : ∀ i < len, ∃ v, ∃ c, d.K w v c ∧ G v (Rows.uptoBulk (DataW.slice (elems.map (·.1)) (rest.map (·.1)))) ∧ w.cells? base (a.add (i * P.cellsOf e)) (P.cellsOf e) = some c := by
        intro i hi
        have h1 := hel i hi
        rw [List.getElem?_eq_getElem (by omega)] at h1
        obtain ⟨c, hc1, hc2⟩ := Option.bind_eq_some_iff.1 h1
        have hmem : elems[i].1 ∈ elems.map (·.1) := List.mem_map.2 ⟨_, List.getElem_mem _, rfl⟩
        obtain ⟨v, hv1, hv2⟩ := he.opens enc w base spare held n c _ hc2 (fun q hq => hw q (List.mem_cons_of_mem _ (List.mem_append_left _ (weights_all hmem q hq))))
        exact ⟨v, c, hv1, he.mono _ _ _ (by have := bulk_all hmem; omega) hv2, hc1⟩
      obtain ⟨l, hl1, hl2⟩ := choice_list len each
      refine ⟨l, ⟨some a, cap, by rw [hl1], by omega, ?_⟩, ?_, by rw [hl1]; omega, ?_, ?_⟩
      · rw [hl1]
        refine ⟨hl1, by unfold maxLen at hm; omega, fun _ => ⟨a, rfl, fun j p hj => ?_⟩⟩
        obtain ⟨c, hc1, _, hc3⟩ := hl2 j p hj
        obtain ⟨_, hc4, hc5⟩ := World.cells?_some hc3
        refine ⟨c, by rw [hc4, he.size], hc1, fun i u hu => ?_⟩
        have hi : i < P.cellsOf e := by
          rcases Nat.lt_or_ge i c.length with h | h
          · omega
          · rw [List.getElem?_eq_none h] at hu; cases hu
        have := hc5 i hi
        rw [hu] at this
        rw [← this, ← he.size]
        rw [Addr.add_add]
      · have h1 := hw _ (List.mem_cons_self)
        rw [hl1, ← hB, ← hlen]
        have h2 : elems.length * P.bytesOf e ≤ ((elems.map (·.1)).length + (rest.map (·.1)).length) * P.bytesOf e := Nat.mul_le_mul_right _ (by simp)
        exact Nat.le_trans h2 (by simpa [reachBytes] using h1)
      · rw [hl1, ← hlen]
        have := bulk_len (elems.map (·.1))
        simp at this ⊢
        simp at hbulk
        omega
      · intro x hx
        obtain ⟨i, hi, rfl⟩ := List.getElem_of_mem hx
        exact (hl2 i _ (List.getElem?_eq_getElem hi)).choose_spec.2.1

/-! ### structs: their fields in line -/
structure OpensSeq {α : Type} (P : Program) (ts : List TypeId) (d : Kd α) (G : α → Nat → Prop) : Prop where
  size : (ts.map P.cellsOf).sum = d.sz
  mono : ∀ x m n, m ≤ n → G x m → G x n
  opens : ∀ {H : Type} (enc : TypeId × Value → H) (w : World) (base : Nat) (spare : Nat → Bool) (held : Bool) (fuel : Nat) (cs : List Value) (xs : List (DataW H × List MemPlace)),
    cs.length = d.sz → xs.length = ts.length →
    (∀ i t, ts[i]? = some t → ∃ y, xs[i]? = some y ∧ DataW.trod enc P w base spare held fuel t ((cs.drop ((ts.take i).map P.cellsOf).sum).take (P.cellsOf t)) = some y ∧ ∀ n ∈ y.1.weights P t, n ≤ reachBytes) →
    ∃ v, d.K w v cs ∧ G v (Rows.uptoBulkAll (xs.map (·.1)))
theorem seq_one {α : Type} {d : Kd α} {G : α → Nat → Prop} (h : Opens P t d G) : OpensSeq P [t] d G where
  size := by simp [h.size]
  mono := h.mono
  opens := by
    intro H enc w base spare held fuel cs xs hl hx hf
    obtain ⟨y, hy, ht, hw⟩ := hf 0 t rfl
    have e : (cs.drop 0).take (P.cellsOf t) = cs := by rw [List.drop_zero, List.take_of_length_le (by rw [hl, h.size]; exact Nat.le_refl _)]
    simp only [List.take_zero, List.map_nil, List.sum_nil] at ht
    rw [e] at ht
    obtain ⟨v, h1, h2⟩ := h.opens enc w base spare held fuel cs y ht hw
    exact ⟨v, h1, h.mono _ _ _ (bulk_all (List.mem_map.2 ⟨y, List.mem_of_getElem? hy, rfl⟩)) h2⟩
def GPair {α β : Type} (G : α → Nat → Prop) (G' : β → Nat → Prop) (x : α × β) (n : Nat) : Prop := G x.1 n ∧ G' x.2 n
theorem seq_cons {α β : Type} {d : Kd α} {G : α → Nat → Prop} {ts : List TypeId} {d' : Kd β} {G' : β → Nat → Prop} (h : Opens P t d G) (h' : OpensSeq P ts d' G') : OpensSeq P (t :: ts) (Kd.pair d d') (GPair G G') where
  size := by show _ = d.sz + d'.sz; simp [h.size, ← h'.size]
  mono := fun x m n hmn hx => ⟨h.mono _ _ _ hmn hx.1, h'.mono _ _ _ hmn hx.2⟩
  opens := by
    intro H enc w base spare held fuel cs xs hl hx hf
    replace hl : cs.length = d.sz + d'.sz := hl
    obtain ⟨y, hy, ht, hw⟩ := hf 0 t rfl
    simp only [List.take_zero, List.map_nil, List.sum_nil, List.drop_zero] at ht
    obtain ⟨v, h1, h2⟩ := h.opens enc w base spare held fuel _ y ht hw
    match xs, hx with
    | [], hx => simp at hx
    | x0 :: xs, hx =>
      obtain rfl : x0 = y := by simpa using hy
      obtain ⟨v', h3, h4⟩ := h'.opens enc w base spare held fuel (cs.drop (P.cellsOf t)) xs (by rw [List.length_drop, hl, h.size]; omega) (by simpa using hx) (fun i t' hi => by
        obtain ⟨y', hy', ht', hw'⟩ := hf (i + 1) t' (by simpa using hi)
        refine ⟨y', by simpa using hy', ?_, hw'⟩
        rw [List.drop_drop]
        simpa [List.take_succ_cons] using ht')
      refine ⟨(v, v'), ⟨cs.take (P.cellsOf t), cs.drop (P.cellsOf t), (List.take_append_drop _ _).symm, h1, h3⟩, ?_, ?_⟩
      · refine h.mono _ _ _ ?_ h2
        rw [List.map_cons, Rows.uptoBulkAll]; omega
      · refine h'.mono _ _ _ ?_ h4
        rw [List.map_cons, Rows.uptoBulkAll]; omega
def offsB (P : Program) : Nat → List Field → Bool
  | _, [] => true
  | o, f :: r => (f.offset == o) && offsB P (o + P.cellsOf f.type) r
theorem offs_at : ∀ {l : List Field} {o : Nat}, offsB P o l = true → ∀ i f, l[i]? = some f → f.offset = o + (((l.map (·.type)).take i).map P.cellsOf).sum
  | [], o, _, i, f, hf => by simp at hf
  | a :: l, o, h, i, f, hf => by
    simp only [offsB, Bool.and_eq_true, beq_iff_eq] at h
    cases i with
    | zero => obtain rfl : a = f := by simpa using hf
              simp [h.1]
    | succ i =>
      have := offs_at h.2 i f (by simpa using hf)
      rw [this]
      simp [List.take_succ_cons]; omega
theorem weights_each {H : Type} : ∀ {ts : List TypeId} {ds : List (DataW H)} {i : Nat} {t : TypeId} {d : DataW H}, ts[i]? = some t → ds[i]? = some d → ∀ n ∈ d.weights P t, n ∈ DataW.weightsEach P ts ds :=
  fun ht hd n hn => DataW.weights_mem_each ht hd n hn
theorem opens_struct {α β : Type} {d : Kd α} {G : α → Nat → Prop} {fs : Array Field} {ts : List TypeId} (h : OpensSeq P ts d G) (ht : P.underlying t = some (.struct fs)) (hts : fs.toList.map (·.type) = ts) (ho : offsB P 0 fs.toList = true)
    (hc : P.cellsOf t = d.sz) (f : β → α) (g : α → β) (hfg : ∀ a, f (g a) = a) : Opens P t (Kd.iso d f) (fun x n => G (f x) n) where
  size := hc
  mono := fun x m n hmn hx => h.mono _ _ _ hmn hx
  opens := by
    intro H enc w base spare held fuel cs x hx hw
    obtain ⟨xs, n, _, rfl, hl, hlen, hf⟩ := DataW.trod_struct ht hx
    have hlen2 : xs.length = ts.length := by rw [hlen, ← hts]; simp
    simp only [DataW.weights, ht, hts] at hw
    obtain ⟨v, h1, h2⟩ := h.opens enc w base spare held n cs xs (hl.trans hc) hlen2 (fun i t' hi => by
      have hi2 : i < ts.length := by
        rcases Nat.lt_or_ge i ts.length with h | h
        · exact h
        · rw [List.getElem?_eq_none h] at hi; cases hi
      have hfi : ∃ fi : Field, fs[i]? = some fi ∧ fi.type = t' := by
        rw [← hts, List.getElem?_map] at hi
        obtain ⟨fi, h3, h4⟩ := Option.map_eq_some_iff.1 hi
        exact ⟨fi, by simpa using h3, h4⟩
      obtain ⟨fi, hfi1, rfl⟩ := hfi
      have h5 := hf i fi hfi1
      refine ⟨xs[i], List.getElem?_eq_getElem (by omega), ?_, ?_⟩
      · rw [List.getElem?_eq_getElem (by omega)] at h5
        have := offs_at ho i fi (by simpa using hfi1)
        rw [hts, Nat.zero_add] at this
        rw [← this]
        exact h5
      · intro q hq
        exact hw q (weights_each hi (by rw [List.getElem?_map, List.getElem?_eq_getElem (by omega)]; rfl) q hq))
    refine ⟨g v, by show d.K w (f (g v)) cs; rw [hfg]; exact h1, ?_⟩
    show G (f (g v)) _
    rw [hfg]
    exact h.mono _ _ _ (by rw [Rows.uptoBulk]; omega) h2
/-! ### arrays: their elements in line -/
theorem okWide_array {w : World} {r : Reach} {base : Nat} {v : Value} {k : Nat} (ht : P.underlying t = some (.array k e)) (h : Value.okWide P w r base t v) : ∃ cs, v = .agg cs ∧ cs.size = P.cellsOf t := by
  simp only [Value.okWide, ht] at h
  obtain ⟨cs, h1, h2, _⟩ := h
  exact ⟨cs, h1, h2⟩
theorem opens_array {α β : Type} {d : Kd α} {G : α → Nat → Prop} {k : Nat} (h : OpensSeq P (List.replicate k e) d G) (ht : P.underlying t = some (.array k e)) (hc : P.cellsOf t = d.sz) (f : β → α) (g : α → β) (hfg : ∀ a, f (g a) = a) : Opens P t (Kd.iso d f) (fun x n => G (f x) n) where
  size := hc
  mono := fun x m n hmn hx => h.mono _ _ _ hmn hx
  opens := by
    intro H enc w base spare held fuel cs x hx hw
    obtain ⟨xs, m, _, rfl, hl, hlen, hf⟩ := DataW.trod_array ht hx
    simp only [DataW.weights, ht] at hw
    obtain ⟨v, h1, h2⟩ := h.opens enc w base spare held m cs xs (hl.trans hc) (by simp [hlen]) (fun i t' hi => by
      obtain ⟨hi2, rfl⟩ : i < k ∧ e = t' := by
        rw [List.getElem?_replicate] at hi
        split at hi
        · rename_i h0; exact ⟨h0, Option.some.inj hi⟩
        · cases hi
      have h5 := hf i hi2
      refine ⟨xs[i], List.getElem?_eq_getElem (by omega), ?_, ?_⟩
      · rw [List.getElem?_eq_getElem (by omega)] at h5
        have h6 : (((List.replicate k e).take i).map P.cellsOf).sum = i * P.cellsOf e := by
          rw [List.take_replicate, List.map_replicate, Nat.min_eq_left (by omega)]
          clear h5 hi2 hf hi
          induction i with
          | zero => simp
          | succ i ih => rw [List.replicate_succ, List.sum_cons, ih]; rw [Nat.succ_mul]; omega
        rw [h6]
        exact h5
      · intro q hq
        exact hw q (weights_all (List.mem_map.2 ⟨xs[i], List.getElem_mem _, rfl⟩) q hq))
    refine ⟨g v, by show d.K w (f (g v)) cs; rw [hfg]; exact h1, ?_⟩
    show G (f (g v)) _
    rw [hfg]
    exact h.mono _ _ _ (by rw [Rows.uptoBulk]; omega) h2
end Go.Proofs.Ythjfmlehkcccfaa.Opn
end

section
/-
  What the arguments' types open to: a program (words, marks, tables) and a context (place, registers, calls).
-/
namespace Go.Proofs.Ythjfmlehkcccfaa.Kinds
open Go.Proofs.YthjfmlehkcccfaaW.PrintWords Go.Proofs.Ythjfmlehkcccfaa.Opn Go.Proofs.Ythjfmlehkcccfaa.GA Go.Proofs.Ythjfmlehkcccfaa.Hctx
theorem o3 : Opens Try.prog 3 (Kd.int .i64) (GInt .i64) := opens_int Try.underlying3 (by kernel_rfl)
theorem o2 : Opens Try.prog 2 (Kd.int .i64) (GInt .i64) := opens_int Try.underlying2 (by kernel_rfl)
theorem o4 : Opens Try.prog 4 Kd.bool GBool := opens_bool Try.underlying4 (by kernel_rfl)
theorem oW : Opens Try.prog 61 (Kd.int .u32) (GInt .u32) := opens_int Try.underlying61 (by kernel_rfl)
def G75 (x : S75) (n : Nat) : Prop := GPair (GInt .i64) (GInt .i64) (x.f0, x.f1) n
theorem o75 : Opens Try.prog 75 k75 G75 :=
  opens_struct (seq_cons o3 (seq_one o3)) Try.underlying75 (by kernel_rfl) (by kernel_rfl) (by kernel_rfl) _ (fun a => ⟨a.1, a.2⟩) (fun _ => rfl)
def G106 (x : S106) (n : Nat) : Prop := GPair GBool (GPair (GInt .i64) (GPair (GInt .i64) (GInt .i64))) (x.f0, x.f1, x.f2, x.f3) n
theorem o106 : Opens Try.prog 106 k106 G106 :=
  opens_struct (seq_cons o4 (seq_cons o3 (seq_cons o3 (seq_one o3)))) Try.underlying106 (by kernel_rfl) (by kernel_rfl) (by kernel_rfl) _ (fun a => ⟨a.1, a.2.1, a.2.2.1, a.2.2.2⟩) (fun _ => rfl)
theorem o96 : Opens Try.prog 96 (Kd.slice 106 k106) (GSl 32 G106) := opens_slice o106 Try.underlying96 (by kernel_rfl) (B := 32) (by kernel_rfl)
def G98 (x : S98) (n : Nat) : Prop := GPair (GSl 32 G106) GBool (x.f0, x.f1) n
theorem o98 : Opens Try.prog 98 k98 G98 :=
  opens_struct (seq_cons o96 (seq_one o4)) Try.underlying98 (by kernel_rfl) (by kernel_rfl) (by kernel_rfl) _ (fun a => ⟨a.1, a.2⟩) (fun _ => rfl)
theorem o22 : Opens Try.prog 22 (Kd.slice 61 (Kd.int .u32)) (GSl 4 (GInt .u32)) := opens_slice oW Try.underlying22 (by kernel_rfl) (B := 4) (by kernel_rfl)
theorem o23 : Opens Try.prog 23 (Kd.slice 75 k75) (GSl 16 G75) := opens_slice o75 Try.underlying23 (by kernel_rfl) (B := 16) (by kernel_rfl)
theorem o24 : Opens Try.prog 24 (Kd.slice 98 k98) (GSl 32 G98) := opens_slice o98 Try.underlying24 (by kernel_rfl) (B := 32) (by kernel_rfl)
theorem o28 : Opens Try.prog 28 (Kd.slice 3 (Kd.int .i64)) (GSl 8 (GInt .i64)) := opens_slice o3 Try.underlying28 (by kernel_rfl) (B := 8) (by kernel_rfl)
structure PrgD where
  (l0 : List Int) (l1 : List S75) (l2 : List S98)
def kPrg : Kd PrgD := Kd.iso (Kd.pair (Kd.slice 61 (Kd.int .u32)) (Kd.pair (Kd.slice 75 k75) (Kd.slice 98 k98))) (fun x : PrgD => (x.l0, x.l1, x.l2))
def GPrg (x : PrgD) (n : Nat) : Prop := GPair (GSl 4 (GInt .u32)) (GPair (GSl 16 G75) (GSl 32 G98)) (x.l0, x.l1, x.l2) n
theorem o26 : Opens Try.prog 26 kPrg GPrg :=
  opens_struct (seq_cons o22 (seq_cons o23 (seq_one o24))) Try.underlying26 (by kernel_rfl) (by kernel_rfl) (by kernel_rfl) _ (fun a => ⟨a.1, a.2.1, a.2.2⟩) (fun _ => rfl)
theorem kPrg_open {w : World} {x : PrgD} {cs : List Value} (h : kPrg.K w x cs) : ∃ A0 c0 A1 c1 A2 c2, cs = [.slice A0 x.l0.length c0, .slice A1 x.l1.length c1, .slice A2 x.l2.length c2] ∧ x.l0.length ≤ c0 ∧ Kd.C (Kd.int .u32) w A0 x.l0.length x.l0 ∧ x.l1.length ≤ c1 ∧ Kd.C k75 w A1 x.l1.length x.l1 ∧ x.l2.length ≤ c2 ∧ Kd.C k98 w A2 x.l2.length x.l2 := by
  obtain ⟨_, _, rfl, ⟨A0, c0, rfl, g0, h0⟩, ⟨_, _, rfl, ⟨A1, c1, rfl, g1, h1⟩, ⟨A2, c2, rfl, g2, h2⟩⟩⟩ := h
  exact ⟨A0, c0, A1, c1, A2, c2, rfl, g0, h0, g1, h1, g2, h2⟩
def kRegs : Kd Regs := Kd.iso (Kd.pair (Kd.int .i64) (Kd.pair (Kd.int .i64) (Kd.pair (Kd.int .i64) (Kd.pair (Kd.int .i64) (Kd.pair (Kd.int .i64) (Kd.pair (Kd.int .i64) (Kd.pair (Kd.int .i64) (Kd.pair (Kd.int .i64) (Kd.pair (Kd.int .i64) (Kd.pair (Kd.int .i64) (Kd.pair (Kd.int .i64) (Kd.pair (Kd.int .i64) (Kd.pair (Kd.int .i64) (Kd.pair (Kd.int .i64) (Kd.pair (Kd.int .i64) (Kd.int .i64)))))))))))))))) (fun r : Regs => (r.r0, r.r1, r.r2, r.r3, r.r4, r.r5, r.r6, r.r7, r.r8, r.r9, r.r10, r.r11, r.r12, r.r13, r.r14, r.r15))
def GRegs (r : Regs) (n : Nat) : Prop := (GPair (GInt .i64) (GPair (GInt .i64) (GPair (GInt .i64) (GPair (GInt .i64) (GPair (GInt .i64) (GPair (GInt .i64) (GPair (GInt .i64) (GPair (GInt .i64) (GPair (GInt .i64) (GPair (GInt .i64) (GPair (GInt .i64) (GPair (GInt .i64) (GPair (GInt .i64) (GPair (GInt .i64) (GPair (GInt .i64) (GInt .i64)))))))))))))))) (r.r0, r.r1, r.r2, r.r3, r.r4, r.r5, r.r6, r.r7, r.r8, r.r9, r.r10, r.r11, r.r12, r.r13, r.r14, r.r15) n
theorem o27 : Opens Try.prog 27 kRegs GRegs :=
  opens_array (k := 16) (e := 2) (seq_cons o2 (seq_cons o2 (seq_cons o2 (seq_cons o2 (seq_cons o2 (seq_cons o2 (seq_cons o2 (seq_cons o2 (seq_cons o2 (seq_cons o2 (seq_cons o2 (seq_cons o2 (seq_cons o2 (seq_cons o2 (seq_cons o2 (seq_one o2)))))))))))))))) Try.underlying27 (by kernel_rfl) _ (fun a => ⟨a.1, a.2.1, a.2.2.1, a.2.2.2.1, a.2.2.2.2.1, a.2.2.2.2.2.1, a.2.2.2.2.2.2.1, a.2.2.2.2.2.2.2.1, a.2.2.2.2.2.2.2.2.1, a.2.2.2.2.2.2.2.2.2.1, a.2.2.2.2.2.2.2.2.2.2.1, a.2.2.2.2.2.2.2.2.2.2.2.1, a.2.2.2.2.2.2.2.2.2.2.2.2.1, a.2.2.2.2.2.2.2.2.2.2.2.2.2.1, a.2.2.2.2.2.2.2.2.2.2.2.2.2.2.1, a.2.2.2.2.2.2.2.2.2.2.2.2.2.2.2⟩) (fun _ => rfl)
theorem kRegs_open {w : World} {r : Regs} {cs : List Value} (h : kRegs.K w r cs) : cs = [.int .i64 r.r0, .int .i64 r.r1, .int .i64 r.r2, .int .i64 r.r3, .int .i64 r.r4, .int .i64 r.r5, .int .i64 r.r6, .int .i64 r.r7, .int .i64 r.r8, .int .i64 r.r9, .int .i64 r.r10, .int .i64 r.r11, .int .i64 r.r12, .int .i64 r.r13, .int .i64 r.r14, .int .i64 r.r15] := by
  obtain ⟨_, _, rfl, rfl, ⟨_, _, rfl, rfl, ⟨_, _, rfl, rfl, ⟨_, _, rfl, rfl, ⟨_, _, rfl, rfl, ⟨_, _, rfl, rfl, ⟨_, _, rfl, rfl, ⟨_, _, rfl, rfl, ⟨_, _, rfl, rfl, ⟨_, _, rfl, rfl, ⟨_, _, rfl, rfl, ⟨_, _, rfl, rfl, ⟨_, _, rfl, rfl, ⟨_, _, rfl, rfl, ⟨_, _, rfl, rfl, rfl⟩⟩⟩⟩⟩⟩⟩⟩⟩⟩⟩⟩⟩⟩⟩ := h
  exact rfl
structure CtxD where
  (pc : Int) (r : Regs) (l : List Int)
def kCtx : Kd CtxD := Kd.iso (Kd.pair (Kd.int .i64) (Kd.pair kRegs (Kd.slice 3 (Kd.int .i64)))) (fun x : CtxD => (x.pc, x.r, x.l))
def GCtx (x : CtxD) (n : Nat) : Prop := GPair (GInt .i64) (GPair GRegs (GSl 8 (GInt .i64))) (x.pc, x.r, x.l) n
theorem o30 : Opens Try.prog 30 kCtx GCtx :=
  opens_struct (seq_cons o3 (seq_cons o27 (seq_one o28))) Try.underlying30 (by kernel_rfl) (by kernel_rfl) (by kernel_rfl) _ (fun a => ⟨a.1, a.2.1, a.2.2⟩) (fun _ => rfl)
theorem kCtx_open {w : World} {x : CtxD} {cs : List Value} (h : kCtx.K w x cs) : ∃ A c, cs = (ctx x.pc x.r (.slice A x.l.length c)).toList ∧ x.l.length ≤ c ∧ Kd.C (Kd.int .i64) w A x.l.length x.l := by
  obtain ⟨_, _, rfl, rfl, ⟨_, _, rfl, hr, ⟨A, c, rfl, g, h⟩⟩⟩ := h
  obtain rfl := kRegs_open hr
  exact ⟨A, c, rfl, g, h⟩
structure InstD where
  (op a b c m : Int)
def kInst : Kd InstD := Kd.iso (Kd.pair (Kd.int .i64) (Kd.pair (Kd.int .i64) (Kd.pair (Kd.int .i64) (Kd.pair (Kd.int .i64) (Kd.int .i64))))) (fun x : InstD => (x.op, x.a, x.b, x.c, x.m))
def GInst (x : InstD) (n : Nat) : Prop := (GPair (GInt .i64) (GPair (GInt .i64) (GPair (GInt .i64) (GPair (GInt .i64) (GInt .i64))))) (x.op, x.a, x.b, x.c, x.m) n
theorem o37 : Opens Try.prog 37 kInst GInst :=
  opens_struct (seq_cons o3 (seq_cons o3 (seq_cons o3 (seq_cons o3 (seq_one o3))))) Try.underlying37 (by kernel_rfl) (by kernel_rfl) (by kernel_rfl) _ (fun a => ⟨a.1, a.2.1, a.2.2.1, a.2.2.2.1, a.2.2.2.2⟩) (fun _ => rfl)
structure RepD where
  (i : InstD) (v ok : Int)
def kRep : Kd RepD := Kd.iso (Kd.pair kInst (Kd.pair (Kd.int .i64) (Kd.int .i64))) (fun x : RepD => (x.i, x.v, x.ok))
def GRep (x : RepD) (n : Nat) : Prop := GPair GInst (GPair (GInt .i64) (GInt .i64)) (x.i, x.v, x.ok) n
theorem o54 : Opens Try.prog 54 kRep GRep :=
  opens_struct (seq_cons o37 (seq_cons o2 (seq_one o2))) Try.underlying54 (by kernel_rfl) (by kernel_rfl) (by kernel_rfl) _ (fun a => ⟨a.1, a.2.1, a.2.2⟩) (fun _ => rfl)
theorem kRep_open {w : World} {x : RepD} {cs : List Value} (h : kRep.K w x cs) : cs = [.int .i64 x.i.op, .int .i64 x.i.a, .int .i64 x.i.b, .int .i64 x.i.c, .int .i64 x.i.m, .int .i64 x.v, .int .i64 x.ok] := by
  obtain ⟨_, _, rfl, ⟨_, _, rfl, rfl, ⟨_, _, rfl, rfl, ⟨_, _, rfl, rfl, ⟨_, _, rfl, rfl, rfl⟩⟩⟩⟩, ⟨_, _, rfl, rfl, rfl⟩⟩ := h
  exact rfl
theorem o31 : Opens Try.prog 31 (Kd.int .u64) (GInt .u64) := opens_int Try.underlying31 (by kernel_rfl)
structure EnvD where
  (clk slot gen : Int)
def kGid : Kd (Int × Int) := Kd.iso (Kd.pair (Kd.int .i64) (Kd.int .i64)) (fun x : Int × Int => (x.1, x.2))
def GGid (x : Int × Int) (n : Nat) : Prop := GPair (GInt .i64) (GInt .i64) (x.1, x.2) n
theorem o33 : Opens Try.prog 33 kGid GGid :=
  opens_struct (seq_cons o3 (seq_one o3)) Try.underlying33 (by kernel_rfl) (by kernel_rfl) (by kernel_rfl) _ (fun a => (a.1, a.2)) (fun _ => rfl)
def kEnv : Kd EnvD := Kd.iso (Kd.pair (Kd.int .u64) kGid) (fun x : EnvD => (x.clk, x.slot, x.gen))
def GEnv (x : EnvD) (n : Nat) : Prop := GPair (GInt .u64) GGid (x.clk, x.slot, x.gen) n
theorem o35 : Opens Try.prog 35 kEnv GEnv :=
  opens_struct (seq_cons o31 (seq_one o33)) Try.underlying35 (by kernel_rfl) (by kernel_rfl) (by kernel_rfl) _ (fun a => ⟨a.1, a.2.1, a.2.2⟩) (fun _ => rfl)
theorem kEnv_open {w : World} {x : EnvD} {cs : List Value} (h : kEnv.K w x cs) : cs = [.int .u64 x.clk, .int .i64 x.slot, .int .i64 x.gen] := by
  obtain ⟨_, _, rfl, rfl, ⟨_, _, rfl, rfl, rfl⟩⟩ := h
  exact rfl
theorem words_lt {l : List Int} {n : Nat} (h : GSl 4 (GInt .u32) l n) : ∀ x ∈ l, 0 ≤ x ∧ x < 4294967296 := by
  intro x hx
  have w0 : (Lit.int .u32 x).wf = true := h.2.2.2 x hx
  simp [Lit.wf, IntKind.min, IntKind.max, IntKind.signed, IntKind.bits] at w0
  omega
theorem calls_lt {l : List Int} {n : Nat} (h : GSl 8 (GInt .i64) l n) : l.length < 17592186044416 := by
  have := h.1
  omega
end Go.Proofs.Ythjfmlehkcccfaa.Kinds
end

section
/-
  What a list of answers opens to.
-/
namespace Go.Proofs.Ythjfmlehkcccfaa.Kinds2
open Go.Proofs.YthjfmlehkcccfaaW.PrintWords Go.Proofs.Ythjfmlehkcccfaa.Opn Go.Proofs.Ythjfmlehkcccfaa.GA Go.Proofs.Ythjfmlehkcccfaa.Hctx Go.Proofs.Ythjfmlehkcccfaa.Kinds
theorem o57 : Opens Try.prog 57 (Kd.slice 2 (Kd.int .i64)) (GSl 8 (GInt .i64)) := opens_slice o2 Try.underlying57 (by kernel_rfl) (B := 8) (by kernel_rfl)
end Go.Proofs.Ythjfmlehkcccfaa.Kinds2
end

section
/-
  Bounds of a program's parts.
-/
namespace Go.Proofs.Ythjfmlehkcccfaa.Kinds4
open Go.Proofs.YthjfmlehkcccfaaW.PrintWords Go.Proofs.Ythjfmlehkcccfaa.Opn Go.Proofs.Ythjfmlehkcccfaa.GA Go.Proofs.Ythjfmlehkcccfaa.Hctx Go.Proofs.Ythjfmlehkcccfaa.Kinds
theorem bounds {x : PrgD} {n : Nat} (h : GPrg x n) : x.l0.length < 1125899906842624 ∧ x.l1.length < 1125899906842624 ∧ x.l2.length < 1125899906842624 ∧ ∀ y ∈ x.l2, y.f0.length < 1125899906842624 := by
  obtain ⟨h0, h1, h2⟩ := h
  have a0 := h0.1
  have a1 := h1.1
  have a2 := h2.1
  dsimp only at a0 a1 a2
  refine ⟨by omega, by omega, by omega, fun y hy => ?_⟩
  have hy' : G98 y n := h2.2.2.2 y hy
  have a3 := hy'.1.1
  dsimp only at a3
  omega
end Go.Proofs.Ythjfmlehkcccfaa.Kinds4
end
