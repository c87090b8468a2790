/-
  TraceWhole in plain Lean: the parts of the goroutines that stand there are all events.
-/
import Derived.Test.YtphbepddhhdhmaaDoorQTrace
import Derived.Test.YtphbepddhhdhmaaDoorGA4
set_option linter.unusedVariables false
set_option linter.unusedSimpArgs false
namespace Go.Proofs.YtphbepddhhdhmaaDoor.Q
open Go.RowKit Go.Proofs.YtphbepddhhdhmaaDoorW.PrintWords Go.Proofs.YtphbepddhhdhmaaDoorW.PrintLast Go.Proofs.YtphbepddhhdhmaaDoorW.PrintMore Go.Proofs.YtphbepddhhdhmaaDoor.GA
/-- An event of this goroutine? -/
def ofG (g : S33) (x : S36) : Bool := x.f2.f0 == g.f0 && (x.f2.f1 == g.f1)
theorem ofG_iff {g : S33} {x : S36} : ofG g x = true ↔ x.f2.f0 = g.f0 ∧ x.f2.f1 = g.f1 := by simp [ofG]
/-- Is the event's goroutine among these? -/
def among (seen : List S33) (x : S36) : Bool := seen.any fun g => ofG g x
theorem among_snoc (seen : List S33) (g : S33) (x : S36) : among (seen ++ [g]) x = (among seen x || ofG g x) := by simp [among]
theorem filter_split {P : S36 → Bool} {xs : List S36} {j : Nat} (hj : j < xs.length) (hp : P xs[j] = true) : xs.filter P = (xs.take j).filter P ++ xs[j] :: (xs.drop (j + 1)).filter P := by
  have h := congrArg (List.filter P) (List.take_append_drop j xs)
  rw [List.filter_append, List.drop_eq_getElem_cons hj, List.filter_cons_of_pos hp] at h
  exact h.symm
variable (xs : List S36) (hl : xs.length < 2199023255552)
include hl
/-- The walk that holds the part against the events. -/
theorem whole_l2 (i : Nat) (hi : i < xs.length) (s : Int) (seen : List S33) (k0 : Nat) (h0 : ∀ k, k0 ≤ k → rotalaw25_TraceWhole.l0 k xs s seen ((i + 1 : Nat) : Int) = some true) :
    ∀ (d j : Nat), j + d = xs.length → ∀ k, k0 + d + 1 ≤ k →
      rotalaw25_TraceWhole.l2 k xs s seen (i : Int) (xs.filter (ofG xs[i].f2)) (((xs.take j).filter (ofG xs[i].f2)).length : Int) (j : Int) = some true := by
  intro d
  induction d with
  | zero =>
    intro j hj k hk
    obtain ⟨k, rfl⟩ : ∃ q, k = q + 1 := ⟨k - 1, by omega⟩
    rw [rotalaw25_TraceWhole.l2, if_neg (by omega), List.take_of_length_le (by omega), if_pos rfl, w1 hl hi]
    exact h0 k (by omega)
  | succ d ih =>
    intro j hj k hk
    obtain ⟨k, rfl⟩ : ∃ q, k = q + 1 := ⟨k - 1, by omega⟩
    have hjl : j < xs.length := by omega
    have h := ih (j + 1) (by omega) k (by omega)
    have hA : (j : Int) < (xs.length : Int) := by omega
    have hB : 0 ≤ (j : Int) := by omega
    have hC : 0 ≤ (i : Int) := by omega
    have hD : (i : Int) < (xs.length : Int) := by omega
    have hle := filter_le (P := ofG xs[i].f2) xs j
    rw [take_filter hjl] at h
    simp only [rotalaw25_TraceWhole.l2, if_pos hA, if_pos hB, if_pos hC, if_pos hD, rd36 xs i hi, rd36 xs j hjl, w1 hl hjl]
    by_cases hp : ofG xs[i].f2 xs[j] = true
    · have hp' : ((xs[j].f2.f0 == xs[i].f2.f0) && (xs[j].f2.f1 == xs[i].f2.f1)) = true := hp
      rw [if_pos hp] at h
      have hsplit := filter_split hjl hp
      have hlen : ((xs.take j).filter (ofG xs[i].f2)).length < (xs.filter (ofG xs[i].f2)).length := by
        rw [hsplit, List.length_append, List.length_cons]; omega
      have hrd : rd_T36 (xs.filter (ofG xs[i].f2)) (((xs.take j).filter (ofG xs[i].f2)).length : Int) = xs[j] := by
        rw [rd36 _ _ hlen]
        simp only [hsplit]
        rw [List.getElem_append_right (Nat.le_refl _)]
        simp
      have e : wrap64 ((((xs.take j).filter (ofG xs[i].f2)).length : Int) + 1) = (((xs.take j).filter (ofG xs[i].f2) ++ [xs[j]]).length : Int) := by
        rw [List.length_append, List.length_singleton, Int.natCast_add]
        exact IntWalk.wrap64_in _ (by omega)
      rw [if_pos hp', if_neg (by omega), if_pos (by omega), if_pos (by omega), hrd, e, if_neg (by simp)]
      exact h
    · have hp' : ¬ ((xs[j].f2.f0 == xs[i].f2.f0) && (xs[j].f2.f1 == xs[i].f2.f1)) = true := hp
      rw [if_neg hp] at h
      rw [if_neg hp']
      exact h
/-- The walk that asks whether the goroutine is known. -/
theorem whole_l1 (i : Nat) (hi : i < xs.length) (s : Int) (seen : List S33) (hs : seen.length ≤ 300) (k0 : Nat)
    (hyes : among seen xs[i] = true → ∀ k, k0 ≤ k → rotalaw25_TraceWhole.l0 k xs s seen ((i + 1 : Nat) : Int) = some true)
    (hno : among seen xs[i] = false → ∀ k, k0 ≤ k → rotalaw25_TraceWhole.l0 k xs (wrap64 (s + ((xs.filter (ofG xs[i].f2)).length : Int))) (seen ++ [xs[i].f2]) ((i + 1 : Nat) : Int) = some true) :
    ∀ (d m : Nat), m + d = seen.length → ∀ k, k0 + xs.length + 2 + d + 1 ≤ k → rotalaw25_TraceWhole.l1 k xs s seen (i : Int) (among (seen.take m) xs[i]) (m : Int) = some true := by
  intro d
  induction d with
  | zero =>
    intro m hm k hk
    obtain ⟨k, rfl⟩ : ∃ q, k = q + 1 := ⟨k - 1, by omega⟩
    rw [rotalaw25_TraceWhole.l1, if_neg (by omega), List.take_of_length_le (by omega)]
    by_cases h : among seen xs[i] = true
    · rw [if_pos h, w1 hl hi]
      exact hyes h k (by omega)
    · rw [if_neg h, if_pos (by omega), if_pos (by omega), if_pos (by omega), twinF xs hl (by omega), Option.bind_some, rd36 xs i hi, tOfF xs hl, Option.bind_some]
      have h' : among seen xs[i] = false := by simpa using h
      exact whole_l2 xs hl i hi _ _ k0 (hno h') xs.length 0 (by omega) k (by omega)
  | succ d ih =>
    intro m hm k hk
    obtain ⟨k, rfl⟩ : ∃ q, k = q + 1 := ⟨k - 1, by omega⟩
    have hml : m < seen.length := by omega
    have h := ih (m + 1) (by omega) k (by omega)
    have e : wrap64 ((m : Int) + 1) = ((m + 1 : Nat) : Int) := by
      rw [Int.natCast_add]
      exact IntWalk.wrap64_in _ (by omega)
    have et : seen.take (m + 1) = seen.take m ++ [seen[m]] := by rw [List.take_add_one, List.getElem?_eq_getElem hml]; rfl
    have er : rd_T33 seen (m : Int) = seen[m] := by
      unfold rd_T33
      rw [List.getD_eq_getElem?_getD, Int.toNat_natCast, List.getElem?_eq_getElem hml]
      rfl
    rw [et, among_snoc] at h
    rw [rotalaw25_TraceWhole.l1, if_pos (by omega), e]
    by_cases hk2 : among (seen.take m) xs[i] = true
    · rw [if_pos hk2]
      rw [hk2, Bool.true_or] at h
      exact h
    · have hk3 : among (seen.take m) xs[i] = false := by simpa using hk2
      rw [if_neg hk2, if_pos (by omega), if_pos (by omega), if_pos (by omega), rd36 xs i hi, er]
      rw [hk3, Bool.false_or] at h
      have ec : ((seen[m].f0 == xs[i].f2.f0) && (seen[m].f1 == xs[i].f2.f1)) = ofG seen[m] xs[i] := by
        unfold ofG
        rw [Bool.beq_comm (a := seen[m].f0), Bool.beq_comm (a := seen[m].f1)]
      rw [ec]
      exact h
omit hl in
theorem count_split (seen : List S33) (g : S33) (hno : ∀ x ∈ xs, ofG g x = true → among seen x = false) :
    (xs.filter (among (seen ++ [g]))).length = (xs.filter (among seen)).length + (xs.filter (ofG g)).length := by
  induction xs with
  | nil => rfl
  | cons x xs ih =>
    have ih := ih (fun y hy => hno y (List.mem_cons_of_mem _ hy))
    have hx := hno x List.mem_cons_self
    by_cases h1 : ofG g x = true
    · have h2 := hx h1
      rw [List.filter_cons_of_pos (by rw [among_snoc, h1, Bool.or_true]), List.filter_cons_of_neg (by simp [h2]), List.filter_cons_of_pos h1, List.length_cons, List.length_cons, ih]
      omega
    · have h1' : ofG g x = false := by simpa using h1
      by_cases h2 : among seen x = true
      · rw [List.filter_cons_of_pos (by rw [among_snoc, h2, Bool.true_or]), List.filter_cons_of_pos h2, List.filter_cons_of_neg (by simp [h1']), List.length_cons, List.length_cons, ih]
        omega
      · have h2' : among seen x = false := by simpa using h2
        rw [List.filter_cons_of_neg (by rw [among_snoc, h2', h1']; simp), List.filter_cons_of_neg (by simp [h2']), List.filter_cons_of_neg (by simp [h1']), ih]
/-- The whole: between two rounds the sum counts the events of the known goroutines, and all that have come are known. -/
theorem whole_l0 : ∀ (d i : Nat), i + d = min xs.length 300 → ∀ seen : List S33, seen.length ≤ i → (∀ (j : Nat) (hj : j < xs.length), j < i → among seen xs[j] = true) → ∃ k0, ∀ k, k0 ≤ k →
    rotalaw25_TraceWhole.l0 k xs ((xs.filter (among seen)).length : Int) seen (i : Int) = some true := by
  intro d
  induction d with
  | zero =>
    intro i hi seen hs hall
    refine ⟨2, fun k hk => ?_⟩
    obtain ⟨k, rfl⟩ : ∃ q, k = q + 2 := ⟨k - 2, by omega⟩
    have fin : rotalaw25_TraceWhole.j1 (k + 1) xs ((xs.filter (among seen)).length : Int) seen (i : Int) false = some true := by
      rw [rotalaw25_TraceWhole.j1, if_neg (by simp)]
      by_cases h : (xs.length : Int) > 300
      · rw [if_pos h]
      · rw [if_neg h]
        have : xs.filter (among seen) = xs := by
          apply List.filter_eq_self.2
          intro x hx
          obtain ⟨j, hj, rfl⟩ := List.getElem_of_mem hx
          exact hall j hj (by omega)
        rw [this]
        simp
    rw [show k + 2 = (k + 1) + 1 from rfl, rotalaw25_TraceWhole.l0]
    by_cases h : (i : Int) < (xs.length : Int)
    · rw [if_pos h, show decide ((i : Int) < 300) = false from decide_eq_false (by omega)]
      exact fin
    · rw [if_neg h]
      exact fin
  | succ d ih =>
    intro i hi seen hs hall
    have hil : i < xs.length := by omega
    have h300 : i < 300 := by omega
    by_cases h : among seen xs[i] = true
    · obtain ⟨k0, hk0⟩ := ih (i + 1) (by omega) seen (by omega) (fun j hj hlt => by
        rcases Nat.lt_or_ge j i with h1 | h1
        · exact hall j hj h1
        · obtain rfl : j = i := by omega
          exact h)
      refine ⟨k0 + xs.length + 2 + seen.length + 1 + 2, fun k hk => ?_⟩
      obtain ⟨k, rfl⟩ : ∃ q, k = q + 2 := ⟨k - 2, by omega⟩
      rw [show k + 2 = (k + 1) + 1 from rfl, rotalaw25_TraceWhole.l0, if_pos (by omega), show decide ((i : Int) < 300) = true from decide_eq_true (by omega), rotalaw25_TraceWhole.j1, if_pos rfl]
      exact whole_l1 xs hl i hil _ seen (by omega) k0 (fun _ => hk0) (fun hn => by rw [h] at hn; cases hn) seen.length 0 (by omega) k (by omega)
    · have h' : among seen xs[i] = false := by simpa using h
      obtain ⟨k0, hk0⟩ := ih (i + 1) (by omega) (seen ++ [xs[i].f2]) (by rw [List.length_append, List.length_singleton]; omega) (fun j hj hlt => by
        rw [among_snoc]
        rcases Nat.lt_or_ge j i with h1 | h1
        · rw [hall j hj h1, Bool.true_or]
        · obtain rfl : j = i := by omega
          rw [show ofG xs[j].f2 xs[j] = true from ofG_iff.2 ⟨rfl, rfl⟩, Bool.or_true])
      have hno : ∀ x ∈ xs, ofG xs[i].f2 x = true → among seen x = false := by
        intro x hx hg
        obtain ⟨e1, e2⟩ := ofG_iff.1 hg
        have : among seen x = among seen xs[i] := by unfold among ofG; rw [e1, e2]
        rw [this]
        exact h'
      have hc := count_split xs seen xs[i].f2 hno
      have hle : (xs.filter (among (seen ++ [xs[i].f2]))).length ≤ xs.length := List.length_filter_le _ _
      have es : wrap64 (((xs.filter (among seen)).length : Int) + ((xs.filter (ofG xs[i].f2)).length : Int)) = ((xs.filter (among (seen ++ [xs[i].f2]))).length : Int) := by
        rw [hc, Int.natCast_add]
        exact IntWalk.wrap64_in _ (by omega)
      refine ⟨k0 + xs.length + 2 + seen.length + 1 + 2, fun k hk => ?_⟩
      obtain ⟨k, rfl⟩ : ∃ q, k = q + 2 := ⟨k - 2, by omega⟩
      rw [show k + 2 = (k + 1) + 1 from rfl, rotalaw25_TraceWhole.l0, if_pos (by omega), show decide ((i : Int) < 300) = true from decide_eq_true (by omega), rotalaw25_TraceWhole.j1, if_pos rfl]
      exact whole_l1 xs hl i hil _ seen (by omega) k0 (fun hy => by rw [h'] at hy; cases hy) (fun _ => by rw [es]; exact hk0) seen.length 0 (by omega) k (by omega)
theorem whole : ∃ k, rotalaw25_TraceWhole.f k xs = some true := by
  obtain ⟨k0, hk0⟩ := whole_l0 xs hl (min xs.length 300) 0 (by omega) [] (by simp) (fun j hj h => by omega)
  refine ⟨k0, ?_⟩
  unfold rotalaw25_TraceWhole.f
  rw [lives, Option.bind_some, if_pos rfl]
  have := hk0 k0 (Nat.le_refl _)
  have e : xs.filter (among []) = [] := List.filter_eq_nil_iff.2 (fun x _ => by simp [among])
  rw [e] at this
  exact this
end Go.Proofs.YtphbepddhhdhmaaDoor.Q
