import Derived.Test.YtonnlkpmfmknlaaDoorRows
import Derived.Test.YtonnlkpmfmknlaaDoorWMore
import Derived.ChangeArms
import Derived.DataReads
import Derived.OpenShut
import Derived.DataElems
import Derived.SizedLaws
import Derived.ProofKit
import Derived.Test.YtonnlkpmfmknlaaDoorMB6
import Derived.Laws.Rows
import Derived.FnData
import Derived.HandedShaped
import Derived.Stop.LaidErr
section
/-
  From what an argument reads as (the row's words) to the kinds in which the contracts speak: one law a make of type.
-/
set_option linter.unusedVariables false
set_option linter.unusedSimpArgs false
namespace Go.Proofs.YtonnlkpmfmknlaaDoor.Opn
open Go.Proofs.YtonnlkpmfmknlaaDoorW.PrintWords

/-- Whatever reads as data at type t is of kind d, and G says what is known of its size. -/
structure Opens {α : Type} (P : Program) (t : TypeId) (d : Kd α) (G : α → Nat → Prop) : Prop where
  size : P.cellsOf t = d.sz
  mono : ∀ x m n, m ≤ n → G x m → G x n
  opens : ∀ {H : Type} (enc : TypeId × Value → H) (w : World) (base : Nat) (spare : Nat → Bool) (held : Bool) (fuel : Nat) (cs : List Value) (x : DataW H × List MemPlace),
    DataW.trod enc P w base spare held fuel t cs = some x → (∀ n ∈ x.1.weights P t, n ≤ reachBytes) → ∃ v, d.K w v cs ∧ G v (Rows.uptoBulk x.1)

variable {P : Program} {t e : TypeId}
def GInt (k : IntKind) (v : Int) (_ : Nat) : Prop := (Lit.int k v).wf = true
def GBool (_ : Bool) (_ : Nat) : Prop := True
def GStr (s : ByteArray) (n : Nat) : Prop := s.size ≤ 140737488351232 ∧ s.size < n
def GSl {α : Type} (B : Nat) (G : α → Nat → Prop) (xs : List α) (n : Nat) : Prop := xs.length * B ≤ 140737488351232 ∧ xs.length ≤ maxLen ∧ xs.length < n ∧ ∀ x ∈ xs, G x n

theorem opens_int {k : IntKind} (ht : P.underlying t = some (.int k)) (hc : P.cellsOf t = 1) : Opens P t (Kd.int k) (GInt k) where
  size := hc
  mono := fun _ _ _ _ h => h
  opens := by
    intro H enc w base spare held fuel cs x h _
    obtain ⟨n, rfl, rfl, hw⟩ := DataW.trod_int ht h
    exact ⟨n, rfl, hw⟩
theorem opens_bool (ht : P.underlying t = some .bool) (hc : P.cellsOf t = 1) : Opens P t Kd.bool GBool where
  size := hc
  mono := fun _ _ _ _ h => h
  opens := by
    intro H enc w base spare held fuel cs x h _
    obtain ⟨b, rfl, rfl⟩ := DataW.trod_bool ht h
    exact ⟨b, rfl, trivial⟩
theorem opens_string (ht : P.underlying t = some .string) (hc : P.cellsOf t = 1) : Opens P t Kd.string GStr where
  size := hc
  mono := fun _ _ _ hmn h => ⟨h.1, Nat.lt_of_lt_of_le h.2 hmn⟩
  opens := by
    intro H enc w base spare held fuel cs x h hw
    obtain ⟨s, rfl, rfl, _⟩ := DataW.trod_string ht h
    have h1 := hw s.data.toList.length (by simp [DataW.weights])
    refine ⟨s, rfl, ?_, ?_⟩
    · simpa [reachBytes] using h1
    · simp [Rows.uptoBulk]
theorem weights_all {H : Type} {P : Program} {e : TypeId} : ∀ {l : List (DataW H)} {d : DataW H}, d ∈ l → ∀ n ∈ d.weights P e, n ∈ DataW.weightsAll P e l
  | a :: l, d, hd, n, hn => by
    rw [DataW.weightsAll]
    rcases List.mem_cons.1 hd with rfl | hd
    · exact List.mem_append_left _ hn
    · exact List.mem_append_right _ (weights_all hd n hn)
theorem bulk_all {H : Type} : ∀ {l : List (DataW H)} {d : DataW H}, d ∈ l → Rows.uptoBulk d ≤ Rows.uptoBulkAll l
  | a :: l, d, hd => by
    rw [Rows.uptoBulkAll]
    rcases List.mem_cons.1 hd with rfl | hd
    · omega
    · have := bulk_all hd; omega
theorem bulk_pos {H : Type} (d : DataW H) : 1 ≤ Rows.uptoBulk d := by
  cases d with
  | lit l => cases l <;> simp [Rows.uptoBulk]
  | _ => simp [Rows.uptoBulk]
theorem bulk_len {H : Type} : ∀ l : List (DataW H), l.length ≤ Rows.uptoBulkAll l
  | [] => by simp
  | a :: l => by rw [Rows.uptoBulkAll]; have := bulk_len l; have := bulk_pos a; simp; omega
theorem choice_list {α : Type} {R : Nat → α → Prop} : ∀ (n : Nat), (∀ i < n, ∃ v, R i v) → ∃ l : List α, l.length = n ∧ ∀ i v, l[i]? = some v → R i v
  | 0, _ => ⟨[], rfl, fun i v h => by simp at h⟩
  | n + 1, h => by
    obtain ⟨l, hl, hr⟩ := choice_list n (fun i hi => h i (by omega))
    obtain ⟨v, hv⟩ := h n (by omega)
    refine ⟨l ++ [v], by simp [hl], fun i u hu => ?_⟩
    rcases Nat.lt_or_ge i l.length with hi | hi
    · rw [List.getElem?_append_left hi] at hu
      exact hr i u hu
    · rw [List.getElem?_append_right hi] at hu
      have h0 : i - l.length = 0 := by
        rcases Nat.eq_zero_or_pos (i - l.length) with h0 | h0
        · exact h0
        · rw [List.getElem?_eq_none (by simp; omega)] at hu; cases hu
      rw [h0] at hu
      obtain rfl : v = u := by simpa using hu
      obtain rfl : i = n := by omega
      exact hv
theorem opens_slice {α : Type} {d : Kd α} {G : α → Nat → Prop} {B : Nat} (he : Opens P e d G) (ht : P.underlying t = some (.slice e)) (hc : P.cellsOf t = 1) (hB : P.bytesOf e = B) : Opens P t (Kd.slice e d) (GSl B G) where
  size := hc
  mono := fun _ _ _ hmn h => ⟨h.1, h.2.1, Nat.lt_of_lt_of_le h.2.2.1 hmn, fun x hx => he.mono _ _ _ hmn (h.2.2.2 x hx)⟩
  opens := by
    intro H enc w base spare held fuel cs x h hw
    rcases DataW.trod_slice ht h with ⟨rfl, rfl⟩ | ⟨a, len, cap, elems, rest, n, rfl, rfl, rfl, hb, hl, hm, hlen, hel, _, _⟩
    · exact ⟨[], ⟨none, 0, rfl, Nat.le_refl _, Kd.C_nil d w⟩, by simp, by simp, by simp [Rows.uptoBulk], by simp⟩
    · simp only [DataW.weights, ht] at hw
      have hbulk : Rows.uptoBulkAll (elems.map (·.1)) < Rows.uptoBulk (DataW.slice (elems.map (·.1)) (rest.map (·.1))) := by rw [Rows.uptoBulk]; omega
      have each : ∀ i < len, ∃ v, ∃ c, d.K w v c ∧ G v (Rows.uptoBulk (DataW.slice (elems.map (·.1)) (rest.map (·.1)))) ∧ w.cells? base (a.add (i * P.cellsOf e)) (P.cellsOf e) = some c := by
        intro i hi
        have h1 := hel i hi
        rw [List.getElem?_eq_getElem (by omega)] at h1
        obtain ⟨c, hc1, hc2⟩ := Option.bind_eq_some_iff.1 h1
        have hmem : elems[i].1 ∈ elems.map (·.1) := List.mem_map.2 ⟨_, List.getElem_mem _, rfl⟩
        obtain ⟨v, hv1, hv2⟩ := he.opens enc w base spare held n c _ hc2 (fun q hq => hw q (List.mem_cons_of_mem _ (List.mem_append_left _ (weights_all hmem q hq))))
        exact ⟨v, c, hv1, he.mono _ _ _ (by have := bulk_all hmem; omega) hv2, hc1⟩
      obtain ⟨l, hl1, hl2⟩ := choice_list len each
      refine ⟨l, ⟨some a, cap, by rw [hl1], by omega, ?_⟩, ?_, by rw [hl1]; omega, ?_, ?_⟩
      · rw [hl1]
        refine ⟨hl1, by unfold maxLen at hm; omega, fun _ => ⟨a, rfl, fun j p hj => ?_⟩⟩
        obtain ⟨c, hc1, _, hc3⟩ := hl2 j p hj
        obtain ⟨_, hc4, hc5⟩ := World.cells?_some hc3
        refine ⟨c, by rw [hc4, he.size], hc1, fun i u hu => ?_⟩
        have hi : i < P.cellsOf e := by
          rcases Nat.lt_or_ge i c.length with h | h
          · omega
          · rw [List.getElem?_eq_none h] at hu; cases hu
        have := hc5 i hi
        rw [hu] at this
        rw [← this, ← he.size]
        rw [Addr.add_add]
      · have h1 := hw _ (List.mem_cons_self)
        rw [hl1, ← hB, ← hlen]
        have h2 : elems.length * P.bytesOf e ≤ ((elems.map (·.1)).length + (rest.map (·.1)).length) * P.bytesOf e := Nat.mul_le_mul_right _ (by simp)
        exact Nat.le_trans h2 (by simpa [reachBytes] using h1)
      · rw [hl1, ← hlen]
        have := bulk_len (elems.map (·.1))
        simp at this ⊢
        simp at hbulk
        omega
      · intro x hx
        obtain ⟨i, hi, rfl⟩ := List.getElem_of_mem hx
        exact (hl2 i _ (List.getElem?_eq_getElem hi)).choose_spec.2.1

/-! ### structs: their fields in line -/
structure OpensSeq {α : Type} (P : Program) (ts : List TypeId) (d : Kd α) (G : α → Nat → Prop) : Prop where
  size : (ts.map P.cellsOf).sum = d.sz
  mono : ∀ x m n, m ≤ n → G x m → G x n
  opens : ∀ {H : Type} (enc : TypeId × Value → H) (w : World) (base : Nat) (spare : Nat → Bool) (held : Bool) (fuel : Nat) (cs : List Value) (xs : List (DataW H × List MemPlace)),
    cs.length = d.sz → xs.length = ts.length →
    (∀ i t, ts[i]? = some t → ∃ y, xs[i]? = some y ∧ DataW.trod enc P w base spare held fuel t ((cs.drop ((ts.take i).map P.cellsOf).sum).take (P.cellsOf t)) = some y ∧ ∀ n ∈ y.1.weights P t, n ≤ reachBytes) →
    ∃ v, d.K w v cs ∧ G v (Rows.uptoBulkAll (xs.map (·.1)))
theorem seq_one {α : Type} {d : Kd α} {G : α → Nat → Prop} (h : Opens P t d G) : OpensSeq P [t] d G where
  size := by simp [h.size]
  mono := h.mono
  opens := by
    intro H enc w base spare held fuel cs xs hl hx hf
    obtain ⟨y, hy, ht, hw⟩ := hf 0 t rfl
    have e : (cs.drop 0).take (P.cellsOf t) = cs := by rw [List.drop_zero, List.take_of_length_le (by rw [hl, h.size]; exact Nat.le_refl _)]
    simp only [List.take_zero, List.map_nil, List.sum_nil] at ht
    rw [e] at ht
    obtain ⟨v, h1, h2⟩ := h.opens enc w base spare held fuel cs y ht hw
    exact ⟨v, h1, h.mono _ _ _ (bulk_all (List.mem_map.2 ⟨y, List.mem_of_getElem? hy, rfl⟩)) h2⟩
def GPair {α β : Type} (G : α → Nat → Prop) (G' : β → Nat → Prop) (x : α × β) (n : Nat) : Prop := G x.1 n ∧ G' x.2 n
theorem seq_cons {α β : Type} {d : Kd α} {G : α → Nat → Prop} {ts : List TypeId} {d' : Kd β} {G' : β → Nat → Prop} (h : Opens P t d G) (h' : OpensSeq P ts d' G') : OpensSeq P (t :: ts) (Kd.pair d d') (GPair G G') where
  size := by show _ = d.sz + d'.sz; simp [h.size, ← h'.size]
  mono := fun x m n hmn hx => ⟨h.mono _ _ _ hmn hx.1, h'.mono _ _ _ hmn hx.2⟩
  opens := by
    intro H enc w base spare held fuel cs xs hl hx hf
    replace hl : cs.length = d.sz + d'.sz := hl
    obtain ⟨y, hy, ht, hw⟩ := hf 0 t rfl
    simp only [List.take_zero, List.map_nil, List.sum_nil, List.drop_zero] at ht
    obtain ⟨v, h1, h2⟩ := h.opens enc w base spare held fuel _ y ht hw
    match xs, hx with
    | [], hx => simp at hx
    | x0 :: xs, hx =>
      obtain rfl : x0 = y := by simpa using hy
      obtain ⟨v', h3, h4⟩ := h'.opens enc w base spare held fuel (cs.drop (P.cellsOf t)) xs (by rw [List.length_drop, hl, h.size]; omega) (by simpa using hx) (fun i t' hi => by
        obtain ⟨y', hy', ht', hw'⟩ := hf (i + 1) t' (by simpa using hi)
        refine ⟨y', by simpa using hy', ?_, hw'⟩
        rw [List.drop_drop]
        simpa [List.take_succ_cons] using ht')
      refine ⟨(v, v'), ⟨cs.take (P.cellsOf t), cs.drop (P.cellsOf t), (List.take_append_drop _ _).symm, h1, h3⟩, ?_, ?_⟩
      · refine h.mono _ _ _ ?_ h2
        rw [List.map_cons, Rows.uptoBulkAll]; omega
      · refine h'.mono _ _ _ ?_ h4
        rw [List.map_cons, Rows.uptoBulkAll]; omega
def offsB (P : Program) : Nat → List Field → Bool
  | _, [] => true
  | o, f :: r => (f.offset == o) && offsB P (o + P.cellsOf f.type) r
theorem offs_at : ∀ {l : List Field} {o : Nat}, offsB P o l = true → ∀ i f, l[i]? = some f → f.offset = o + (((l.map (·.type)).take i).map P.cellsOf).sum
  | [], o, _, i, f, hf => by simp at hf
  | a :: l, o, h, i, f, hf => by
    simp only [offsB, Bool.and_eq_true, beq_iff_eq] at h
    cases i with
    | zero => obtain rfl : a = f := by simpa using hf
              simp [h.1]
    | succ i =>
      have := offs_at h.2 i f (by simpa using hf)
      rw [this]
      simp [List.take_succ_cons]; omega
theorem weights_each {H : Type} : ∀ {ts : List TypeId} {ds : List (DataW H)} {i : Nat} {t : TypeId} {d : DataW H}, ts[i]? = some t → ds[i]? = some d → ∀ n ∈ d.weights P t, n ∈ DataW.weightsEach P ts ds :=
  fun ht hd n hn => DataW.weights_mem_each ht hd n hn
theorem opens_struct {α β : Type} {d : Kd α} {G : α → Nat → Prop} {fs : Array Field} {ts : List TypeId} (h : OpensSeq P ts d G) (ht : P.underlying t = some (.struct fs)) (hts : fs.toList.map (·.type) = ts) (ho : offsB P 0 fs.toList = true)
    (hc : P.cellsOf t = d.sz) (f : β → α) (g : α → β) (hfg : ∀ a, f (g a) = a) : Opens P t (Kd.iso d f) (fun x n => G (f x) n) where
  size := hc
  mono := fun x m n hmn hx => h.mono _ _ _ hmn hx
  opens := by
    intro H enc w base spare held fuel cs x hx hw
    obtain ⟨xs, n, _, rfl, hl, hlen, hf⟩ := DataW.trod_struct ht hx
    have hlen2 : xs.length = ts.length := by rw [hlen, ← hts]; simp
    simp only [DataW.weights, ht, hts] at hw
    obtain ⟨v, h1, h2⟩ := h.opens enc w base spare held n cs xs (hl.trans hc) hlen2 (fun i t' hi => by
      have hi2 : i < ts.length := by
        rcases Nat.lt_or_ge i ts.length with h | h
        · exact h
        · rw [List.getElem?_eq_none h] at hi; cases hi
      have hfi : ∃ fi : Field, fs[i]? = some fi ∧ fi.type = t' := by
        rw [← hts, List.getElem?_map] at hi
        obtain ⟨fi, h3, h4⟩ := Option.map_eq_some_iff.1 hi
        exact ⟨fi, by simpa using h3, h4⟩
      obtain ⟨fi, hfi1, rfl⟩ := hfi
      have h5 := hf i fi hfi1
      refine ⟨xs[i], List.getElem?_eq_getElem (by omega), ?_, ?_⟩
      · rw [List.getElem?_eq_getElem (by omega)] at h5
        have := offs_at ho i fi (by simpa using hfi1)
        rw [hts, Nat.zero_add] at this
        rw [← this]
        exact h5
      · intro q hq
        exact hw q (weights_each hi (by rw [List.getElem?_map, List.getElem?_eq_getElem (by omega)]; rfl) q hq))
    refine ⟨g v, by show d.K w (f (g v)) cs; rw [hfg]; exact h1, ?_⟩
    show G (f (g v)) _
    rw [hfg]
    exact h.mono _ _ _ (by rw [Rows.uptoBulk]; omega) h2
/-! ### arrays: their elements in line -/
theorem okWide_array {w : World} {r : Reach} {base : Nat} {v : Value} {k : Nat} (ht : P.underlying t = some (.array k e)) (h : Value.okWide P w r base t v) : ∃ cs, v = .agg cs ∧ cs.size = P.cellsOf t := by
  simp only [Value.okWide, ht] at h
  obtain ⟨cs, h1, h2, _⟩ := h
  exact ⟨cs, h1, h2⟩
theorem opens_array {α β : Type} {d : Kd α} {G : α → Nat → Prop} {k : Nat} (h : OpensSeq P (List.replicate k e) d G) (ht : P.underlying t = some (.array k e)) (hc : P.cellsOf t = d.sz) (f : β → α) (g : α → β) (hfg : ∀ a, f (g a) = a) : Opens P t (Kd.iso d f) (fun x n => G (f x) n) where
  size := hc
  mono := fun x m n hmn hx => h.mono _ _ _ hmn hx
  opens := by
    intro H enc w base spare held fuel cs x hx hw
    obtain ⟨xs, m, _, rfl, hl, hlen, hf⟩ := DataW.trod_array ht hx
    simp only [DataW.weights, ht] at hw
    obtain ⟨v, h1, h2⟩ := h.opens enc w base spare held m cs xs (hl.trans hc) (by simp [hlen]) (fun i t' hi => by
      obtain ⟨hi2, rfl⟩ : i < k ∧ e = t' := by
        rw [List.getElem?_replicate] at hi
        split at hi
        · rename_i h0; exact ⟨h0, Option.some.inj hi⟩
        · cases hi
      have h5 := hf i hi2
      refine ⟨xs[i], List.getElem?_eq_getElem (by omega), ?_, ?_⟩
      · rw [List.getElem?_eq_getElem (by omega)] at h5
        have h6 : (((List.replicate k e).take i).map P.cellsOf).sum = i * P.cellsOf e := by
          rw [List.take_replicate, List.map_replicate, Nat.min_eq_left (by omega)]
          clear h5 hi2 hf hi
          induction i with
          | zero => simp
          | succ i ih => rw [List.replicate_succ, List.sum_cons, ih]; rw [Nat.succ_mul]; omega
        rw [h6]
        exact h5
      · intro q hq
        exact hw q (weights_all (List.mem_map.2 ⟨xs[i], List.getElem_mem _, rfl⟩) q hq))
    refine ⟨g v, by show d.K w (f (g v)) cs; rw [hfg]; exact h1, ?_⟩
    show G (f (g v)) _
    rw [hfg]
    exact h.mono _ _ _ (by rw [Rows.uptoBulk]; omega) h2
end Go.Proofs.YtonnlkpmfmknlaaDoor.Opn
end

section
-- laid by a program of this session (wip/gp.sh)
namespace Go.Proofs.YtonnlkpmfmknlaaDoor.GA
open Go.RowKit Go.Proofs.YtonnlkpmfmknlaaDoorW.PrintWords Go.Proofs.YtonnlkpmfmknlaaDoorW.PrintLast Go.Proofs.YtonnlkpmfmknlaaDoorW.PrintMore
attribute [local go_sem] max2_int min2_int max_two min_two max_three min_three max_four min_four   -- for this text's walks alone
set_option linter.unusedVariables false
set_option linter.unusedSimpArgs false

/-! ### rotalaw19_lives: function 12 (its contract: by hand) -/
-- NEEDS Derived.Test.YtonnlkpmfmknlaaDoorHlives
-- its type: def rotalaw19_lives.f  : Option (Bool)
def rotalaw19_lives.f : Option Bool := some true
set_option maxHeartbeats 8000000 in
set_option maxRecDepth 100000 in
theorem rotalaw19_lives.calls  (r : Bool) (w : World) (hLLibStd : Laid.LibStd w) (h : rotalaw19_lives.f  = some r) :
    Calls Tryd.prog 12 #[] w fun e w' => e = .returned (.bool r) ∧ Below w.heap.size w w' := by
  unfold rotalaw19_lives.f at h
  obtain rfl := Option.some.inj h
  exact (Hof.lives_calls w hLLibStd).mono fun e W' ⟨he, hb⟩ => ⟨he, hb⟩

end Go.Proofs.YtonnlkpmfmknlaaDoor.GA
end

section
/-
  What the arguments' types open to: choices and slices of them.
-/
namespace Go.Proofs.YtonnlkpmfmknlaaDoor.Kinds
open Go.Proofs.YtonnlkpmfmknlaaDoorW.PrintWords Go.Proofs.YtonnlkpmfmknlaaDoor.Opn Go.Proofs.YtonnlkpmfmknlaaDoor.GA
theorem o3 : Opens Tryd.prog 3 (Kd.int .i64) (GInt .i64) := opens_int Tryd.underlying3 (by kernel_rfl)
theorem o2 : Opens Tryd.prog 2 (Kd.int .i64) (GInt .i64) := opens_int Tryd.underlying2 (by kernel_rfl)
theorem o36 : Opens Tryd.prog 36 (Kd.int .u32) (GInt .u32) := opens_int Tryd.underlying36 (by kernel_rfl)
theorem o29 : Opens Tryd.prog 29 (Kd.slice 36 (Kd.int .u32)) (GSl 4 (GInt .u32)) := opens_slice o36 Tryd.underlying29 (by kernel_rfl) (B := 4) (by kernel_rfl)
theorem o30 : Opens Tryd.prog 30 (Kd.slice 2 (Kd.int .i64)) (GSl 8 (GInt .i64)) := opens_slice o2 Tryd.underlying30 (by kernel_rfl) (B := 8) (by kernel_rfl)
def G32 (x : S32) (n : Nat) : Prop := GPair (GSl 4 (GInt .u32)) (GSl 8 (GInt .i64)) (x.f0, x.f1) n
theorem o32 : Opens Tryd.prog 32 k32 G32 :=
  opens_struct (seq_cons o29 (seq_one o30)) Tryd.underlying32 (by kernel_rfl) (by kernel_rfl) (by kernel_rfl) _ (fun a => ⟨a.1, a.2⟩) (fun _ => rfl)
theorem o22 : Opens Tryd.prog 22 (Kd.slice 32 k32) (GSl 48 G32) := opens_slice o32 Tryd.underlying22 (by kernel_rfl) (B := 48) (by kernel_rfl)
theorem o39 : Opens Tryd.prog 39 (Kd.slice 3 (Kd.int .i64)) (GSl 8 (GInt .i64)) := opens_slice o3 Tryd.underlying39 (by kernel_rfl) (B := 8) (by kernel_rfl)
end Go.Proofs.YtonnlkpmfmknlaaDoor.Kinds
end

section
/-
  The listed variables that the readers meet: what their cells hold.
-/
set_option linter.unusedVariables false
namespace Go.Proofs.YtonnlkpmfmknlaaDoor.Laid
open Go.RowKit Go.Proofs.YtonnlkpmfmknlaaDoorW.PrintWords
/-- What all three rows list. -/
theorem laidVars_mem {P : Program} {w : World} {name : String} {d : DataW Unit} : ∀ {laid : List (String × DataW Unit)} {ps : List MemPlace}, DataW.LaidVars P w laid ps → (name, d) ∈ laid →
    ∃ g t cs fuel p, P.globalNamed name = some g ∧ (P.globals[g]?).map (·.type) = some t ∧ w.var? P name = some cs ∧ DataW.trod (fun _ => ()) P w 0 (fun _ => true) false fuel t cs.toList = some (d, p)
  | [], _, _, hm => by simp at hm
  | (n', d') :: r, ps, h, hm => by
    obtain ⟨g, t, cs, fuel, p, q, h1, h2, h3, h4, h5, _⟩ := h
    rcases List.mem_cons.1 hm with e | hm
    · obtain ⟨rfl, rfl⟩ := Prod.mk.inj e
      exact ⟨g, t, cs, fuel, p, h1, h2, h3, h4⟩
    · exact laidVars_mem h5 hm
def seven : List (String × DataW Unit) := [("math/bits.deBruijn32tab", Rows.laid_math_bits_deBruijn32tab), ("math/bits.deBruijn64tab", Rows.laid_math_bits_deBruijn64tab), ("internal/strconv.uint64pow10", Rows.laid_internal_strconv_uint64pow10), ("unicode/utf8.acceptRanges", Rows.laid_unicode_utf8_acceptRanges), ("strconv.ErrRange", Rows.laid_strconv_ErrRange), ("strconv.ErrSyntax", Rows.laid_strconv_ErrSyntax), ("unicode/utf8.first", Rows.laid_unicode_utf8_first)]
theorem star : "*" ++ "errors.errorString" = "*errors.errorString" := by decide
theorem row150 (u : TypeId) (h : Tryd.prog.typeName? 3 u = some "*errors.errorString") : u = 150 :=
  typeName_ptr_named (nm := "errors.errorString") (by rw [star]; kernel_rfl) (by kernel_rfl) (by decide) u (by rw [star]; exact h)
theorem err_at {W : World} {n : String} {text : List UInt8} {r : List (String × DataW Unit)} {g : Nat} (h : laidMet Tryd.prog ((n, .iface "*errors.errorString" (.ptr (.agg [.lit (.string text)]))) :: r) W) (hg : Tryd.prog.globalNamed n = some g) (ht : (Tryd.prog.globals[g]?).map (·.type) = some 71) :
    ∃ te pe, W.cell? ⟨g, 0, none⟩ = some (.iface te pe) := by
  have hi : Tryd.prog.underlying 71 = some (.interface #[("Error", 78)]) := by kernel_rfl
  obtain ⟨a, s, hv, _, _, _⟩ := laid_sentinel h hg ht (ti := 71) (tp := 150) (te := 152) (ts := 9) hi row150 (by kernel_rfl) (show Tryd.prog.underlying 152 = some (.struct #[{ name := "s", type := 9, offset := 0, embedded := false, tag := "", pkgPath := "errors", byteOffset := 0 }]) by kernel_rfl) rfl rfl Tryd.underlying9 (by kernel_rfl) (by kernel_rfl)
  exact ⟨_, _, (World.var?_cell hg hv 0).trans rfl⟩
theorem std_of {W : World} (h : laidMet Tryd.prog seven W) (hS : W.ShapedOpen Tryd.prog) : Hof.Std W := by
  have hr := laidMet.tail (laidMet.tail (laidMet.tail (laidMet.tail h)))
  have hs := laidMet.tail hr
  obtain ⟨m, hm⟩ := cell_of_shapedOpen_int (P := Tryd.prog) (g := 1) (t := 3) (zero := #[.int .i64 0]) hS (of_decide_eq_true (by kernel_rfl)) (by kernel_rfl) rfl (by kernel_rfl) (by kernel_rfl) Tryd.underlying3
  obtain ⟨g, t, cs, fuel, p, hg, ht, hvar, hd⟩ : ∃ g t cs fuel p, Tryd.prog.globalNamed "math/bits.deBruijn64tab" = some g ∧ (Tryd.prog.globals[g]?).map (·.type) = some t ∧ W.var? Tryd.prog "math/bits.deBruijn64tab" = some cs ∧ DataW.trod (fun _ => ()) Tryd.prog W 0 (fun _ => true) false fuel t cs.toList = some (Rows.laid_math_bits_deBruijn64tab, p) := by
    obtain ⟨ps, hps, _⟩ := h
    exact laidVars_mem hps (by simp [seven])
  have hsize : 7 < W.heap.size := by
    obtain rfl := Option.some.inj (hg.symm.trans (show Tryd.prog.globalNamed "math/bits.deBruijn64tab" = some 7 by kernel_rfl))
    unfold World.var? at hvar
    rw [hg] at hvar
    rcases Nat.lt_or_ge 7 W.heap.size with h' | h'
    · exact h'
    · simp [Array.getElem?_eq_none h'] at hvar
  exact ⟨hsize, ⟨m, hm⟩, err_at hs (by kernel_rfl) (by kernel_rfl), err_at hr (by kernel_rfl) (by kernel_rfl)⟩
end Go.Proofs.YtonnlkpmfmknlaaDoor.Laid
end

section
namespace Go.Proofs.YtonnlkpmfmknlaaDoor
end Go.Proofs.YtonnlkpmfmknlaaDoor
end
