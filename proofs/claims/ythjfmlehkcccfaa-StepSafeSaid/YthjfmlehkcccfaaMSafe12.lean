import Derived.Test.YthjfmlehkcccfaaMSafe1
import Derived.Test.YthjfmlehkcccfaaMSafe9
import Derived.Test.YthjfmlehkcccfaaMSafe11
import Derived.Test.YthjfmlehkcccfaaMSafe2
import Derived.Test.YthjfmlehkcccfaaMSafe5
import Derived.Test.YthjfmlehkcccfaaMSafe6
section
-- laid by a program of this session (wip/gp.sh)
namespace Go.Proofs.Ythjfmlehkcccfaa.GA
open Go.RowKit Go.Proofs.YthjfmlehkcccfaaW.PrintWords Go.Proofs.YthjfmlehkcccfaaW.PrintLast Go.Proofs.YthjfmlehkcccfaaW.PrintMore
attribute [local go_sem] max2_int min2_int max_two min_two max_three min_three max_four min_four   -- for this text's walks alone
set_option linter.unusedVariables false
set_option linter.unusedSimpArgs false

/-! ### rotaref09_Handle: function 36 -/
def rotaref09_Handle.f (a0_0 : Int) (a0_1 : Int) : Option (Int) := some (wrap64 (a0_0 + (wrap64 (a0_1 * 4294967296))))
set_option maxHeartbeats 8000000 in
set_option maxRecDepth 100000 in
theorem rotaref09_Handle.calls (a0_0 : Int) (a0_1 : Int) (r : Int) (w : World) (h : rotaref09_Handle.f a0_0 a0_1 = some r) :
    Calls Try.prog 36 #[.agg #[.int .i64 a0_0, .int .i64 a0_1]] w fun e w' => e = .returned (.int .i64 r) ∧ Below w.heap.size w w' := by
  have hu33 := Try.underlying33
  have HB := Aside0.mk (Below.refl w.heap.size w)
  have H : (some (wrap64 (a0_0 + (wrap64 (a0_1 * 4294967296))))) = some r := h
  clear h
  obtain rfl := Option.some.inj H
  go_enter Try.func36, Try.ntmps36
  go_wp2_with (first | ((with_reducible refine gate_dst (N := 1) rfl ?_); refine box_event ?hg (N := 1) ?hd (cs := #[.int .i64 a0_0, .int .i64 a0_1]) (t := 33) ?hr ?_; (case hd => rfl); (case hg => rfl); (case hr => first | (go_simp; done) | (go_simp; rfl)); intro gb222 hg w2 hbox hb; have n0_ := Aside0.mk (below_step (by repeat (first | (with_reducible first | exact HB.out | apply below_alloc | apply pw_below_drewN | apply below_drew1) | exact HB.out)) hb); have n1_ := Aside0.mk (hbox); have n2_ := Aside0.mk ((by rw [hg]; exact (below_size (by repeat (first | (with_reducible first | exact HB.out | apply below_alloc | apply pw_below_drewN | apply below_drew1) | exact HB.out))) : w.heap.size ≤ gb222)); have n3_ := Aside0.mk ((by rw [hg]; exact (below_size (by repeat (first | (with_reducible first | exact HB.out | apply below_alloc | apply pw_below_drewN | apply below_drew1) | exact HB.out))) : w.heap.size ≤ gb222)); clear HB; have HB := n0_; have BK222 := n1_; have GW222 := n2_; have GE222 := n3_; clear n0_ n1_ n2_ n3_; clear hb hbox hg; have hcz3_0 : w2.cell? ⟨gb222, 0, none⟩ = some (.int .i64 a0_0) := (blk_cell BK222.out 0).trans rfl; have hcz3_1 : w2.cell? ⟨gb222, 1, none⟩ = some (.int .i64 a0_1) := (blk_cell BK222.out 1).trans rfl; have hfz3_0 := blk_frozen BK222.out 0; have hfz3_1 := blk_frozen BK222.out 1))
  go_ret
  exact ⟨by first | rfl | (simp [errW_none, errW_some] <;> rfl) | (simp [*, errW_none, errW_some] <;> rfl), by repeat (first | (with_reducible first | exact HB.out | apply below_alloc | apply pw_below_drewN | apply below_drew1 | refine below_set ?_ GE222.out) | exact HB.out)⟩

end Go.Proofs.Ythjfmlehkcccfaa.GA
end

section
/-
  rotaref06.Decode and word.Decode answer the same at every word.
-/
set_option linter.unusedVariables false
set_option linter.unusedSimpArgs false
namespace Go.Proofs.Ythjfmlehkcccfaa.Pure
open Go.RowKit Go.Proofs.Ythjfmlehkcccfaa.GA Go.Proofs.YthjfmlehkcccfaaW.PrintWords Go.Proofs.YthjfmlehkcccfaaW.PrintLast

theorem ref_decode (w : Int) (h0 : 0 ≤ w) (h1 : w < 4294967296) : rotaref06_Decode.f w = word_Decode.f w := by
  unfold rotaref06_Decode.f Hdec.decF
  rw [if_pos ⟨h0, h1⟩]
  rcases Q.in_or (w / 16777216) with ⟨j, hj, ho⟩ | hn
  · rw [Q.word_decode j hj w h0 h1 ho, ho, Q.table_in j hj]
    obtain ⟨_, _, s0, s1⟩ := Q.cost_at hj
    generalize (Hfind.rowAt j).2.1 = s at *
    have a0 : 0 ≤ Q.dA w ∧ Q.dA w < 16 := by unfold Q.dA; omega
    have b0 : 0 ≤ Q.dB w ∧ Q.dB w < 16 := by unfold Q.dB; omega
    have m0 : 0 ≤ w % 65536 ∧ w % 65536 < 65536 ∧ 0 ≤ w % 16 ∧ w % 16 < 16 ∧ (w % 65536) % 16 = w % 16 := by omega
    simp only [Option.bind_some, if_true, Q.has_at]
    rw [show w / 1048576 % 16 = Q.dA w from rfl, show w / 65536 % 16 = Q.dB w from rfl]
    have hs : s = 0 ∨ s = 1 ∨ s = 2 ∨ s = 3 ∨ s = 4 ∨ s = 5 ∨ s = 6 := by omega
    clear ho
    rcases hs with rfl | rfl | rfl | rfl | rfl | rfl | rfl
    all_goals
      simp only [Hdec.fields, Hdec.bad, Hdec.fitB, Q.dC, Q.dM, Hfits.fitsB, Hfits.reg]
      simp
      generalize Q.dA w = a at *
      generalize Q.dB w = b at *
      generalize w % 16 = c at *
      generalize w % 65536 = m at *
      repeat' split
      all_goals first | rfl | omega | (simp; omega)
  · rw [Q.decode_else w h0 h1 hn, Q.table_else _ hn]
    simp
end Go.Proofs.Ythjfmlehkcccfaa.Pure
end

section
/-
  What 'next' finds, on both sides.
-/
set_option linter.unusedVariables false
set_option linter.unusedSimpArgs false
namespace Go.Proofs.Ythjfmlehkcccfaa.Qnext
open Go.RowKit Go.Proofs.YthjfmlehkcccfaaW.PrintWords Go.Proofs.YthjfmlehkcccfaaW.PrintLast Go.Proofs.YthjfmlehkcccfaaW.PrintMore GA Hctx Hsmall
theorem next_both (l0 : List Int) (l1 : List S75) (l2 : List S98) (pc : Int) (r : Regs) (l : List Int) (hw : ∀ x ∈ l0, 0 ≤ x ∧ x < 4294967296) :
    ∃ (op : Int) (a b c : Nat) (m : Int) (ok : Bool), step_next.f l0 l1 l2 pc r.r0 r.r1 r.r2 r.r3 r.r4 r.r5 r.r6 r.r7 r.r8 r.r9 r.r10 r.r11 r.r12 r.r13 r.r14 r.r15 l = some (op, (a : Int), (b : Int), (c : Int), m, ok) ∧
      rotaref09_next.f l0 l1 l2 pc r.r0 r.r1 r.r2 r.r3 r.r4 r.r5 r.r6 r.r7 r.r8 r.r9 r.r10 r.r11 r.r12 r.r13 r.r14 r.r15 l = some (op, (a : Int), (b : Int), (c : Int), m, ok) ∧
      a < 16 ∧ b < 16 ∧ c < 16 ∧ (ok = false → op = 0 ∧ a = 0 ∧ b = 0 ∧ c = 0 ∧ m = 0) ∧ (ok = true → 0 ≤ pc ∧ pc < l0.length ∧ 1 ≤ op ∧ op ≤ 58 ∧ (op ≠ 2 → 0 ≤ m)) := by
  unfold step_next.f rotaref09_next.f
  by_cases h1 : pc < 0
  · exact ⟨0, 0, 0, 0, 0, false, by rw [if_pos h1]; rfl, by rw [if_pos h1]; rfl, by omega, by omega, by omega, fun _ => ⟨rfl, rfl, rfl, rfl, rfl⟩, by simp⟩
  · by_cases h2 : pc ≥ (l0.length : Int)
    · exact ⟨0, 0, 0, 0, 0, false, by rw [if_neg h1, if_pos h2]; rfl, by rw [if_neg h1, if_pos h2]; rfl, by omega, by omega, by omega, fun _ => ⟨rfl, rfl, rfl, rfl, rfl⟩, by simp⟩
    · rw [if_neg h1, if_neg h2, if_pos (by omega), if_pos (by omega), if_neg h1, if_neg h2, if_pos (by omega), if_pos (by omega)]
      have hin : rd l0 pc ∈ l0 := by
        unfold rd
        rw [List.getD_eq_getElem?_getD, List.getElem?_eq_getElem (by omega)]
        exact List.getElem_mem _
      obtain ⟨b0, b1⟩ := hw _ hin
      generalize rd l0 pc = x at *
      rw [Pure.ref_decode x b0 b1]
      rcases Q.in_or (x / 16777216) with ⟨j, hj, ho⟩ | hn
      · rw [Q.word_decode j hj x b0 b1 ho]
        by_cases hf : Hfits.fitsB (Q.dA x) (Q.dB x) (Q.dC x (Hfind.rowAt j).2.1) (Q.dM x (Hfind.rowAt j).2.1) (Hfind.rowAt j).2.1 = true
        · rw [if_pos hf]
          obtain ⟨f1, f2, f3, f4, f5, f6, f7, f8, f9⟩ := Q.fits_bd hf
          refine ⟨(j : Int) + 1, (Q.dA x).toNat, (Q.dB x).toNat, (Q.dC x (Hfind.rowAt j).2.1).toNat, Q.dM x (Hfind.rowAt j).2.1, true, ?_, ?_, by omega, by omega, by omega, by simp, fun _ => ⟨by omega, by omega, by omega, by omega, fun hop => ?_⟩⟩
          · simp only [Option.bind_some]
            rw [Int.toNat_of_nonneg f1, Int.toNat_of_nonneg f3, Int.toNat_of_nonneg f5]; rfl
          · simp only [Option.bind_some]
            rw [Int.toNat_of_nonneg f1, Int.toNat_of_nonneg f3, Int.toNat_of_nonneg f5]; rfl
          · have hs : (Hfind.rowAt j).2.1 ≠ 6 := by
              have hall : ((List.range 58).all fun i => decide ((Hfind.rowAt i).2.1 = 6 → i = 1)) = true := by kernel_rfl
              have := List.all_eq_true.1 hall j (List.mem_range.2 hj)
              simp at this
              omega
            unfold Q.dM
            rw [if_neg hs]
            split <;> omega
        · rw [if_neg hf]
          exact ⟨0, 0, 0, 0, 0, false, rfl, rfl, by omega, by omega, by omega, fun _ => ⟨rfl, rfl, rfl, rfl, rfl⟩, by simp⟩
      · rw [Q.decode_else x b0 b1 hn]
        exact ⟨0, 0, 0, 0, 0, false, rfl, rfl, by omega, by omega, by omega, fun _ => ⟨rfl, rfl, rfl, rfl, rfl⟩, by simp⟩
end Go.Proofs.Ythjfmlehkcccfaa.Qnext
end

section
/-
  What a step comes to, as one plain function; both sides' numbers agree.
-/
set_option linter.unusedVariables false
set_option linter.unusedSimpArgs false
namespace Go.Proofs.Ythjfmlehkcccfaa.Qstep
open Go.RowKit Go.Proofs.YthjfmlehkcccfaaW.PrintWords Go.Proofs.YthjfmlehkcccfaaW.PrintLast Go.Proofs.YthjfmlehkcccfaaW.PrintMore GA Hctx Hsmall
structure Out where
  pc : Int
  r : Regs
  calls : List Int
  want : Array Value
def divV (op y z : Int) : Int := if op = 8 then (if z = -1 then wrap64 (-y) else wrap64 (Int.tdiv y z)) else (if z = -1 then 0 else Int.tmod y z)
theorem reck (op y z : Int) : ∃ v f, step_reckoned.f op y z = some (v, f) ∧ rotaref09_worked.f op y z = some (v, f) ∧ (f = false → v = 0) := by
  have hw : 0 ≤ IntKind.u64.wrap (Go.bits .and .i64 z 63) := by
    simp only [IntKind.wrap, IntKind.bits, IntKind.signed, Bool.false_and]
    simp; omega
  have ht : ∀ b, ∃ v, step_truth.f b = some v ∧ rotaref09_bit.f b = some v := fun b => by cases b <;> exact ⟨_, rfl, rfl⟩
  unfold step_reckoned.f rotaref09_worked.f
  obtain ⟨v1, e1, e2⟩ := ht (decide (y < z))
  obtain ⟨v2, e3, e4⟩ := ht (y == z)
  rw [e1, e2, e3, e4, if_pos hw, if_pos hw]
  simp only [Option.bind_some]
  repeat' split
  all_goals exact ⟨_, _, rfl, rfl, by simp⟩
theorem div_p (op y z : Int) (ho : op = 8 ∨ op = 9) (hz : z ≠ 0) : ∃ k, step_divided.f k op y z = some (divV op y z) := by
  have e : Int.tdiv y (-1) = -y := by rw [Int.tdiv_neg, Int.tdiv_one]
  refine ⟨5, ?_⟩
  unfold step_divided.f divV
  simp only [step_divided.j0, step_divided.j1]
  rcases ho with rfl | rfl
  · by_cases h : z = -1
    · subst h
      by_cases hy : y = -9223372036854775808
      · subst hy; simp; unfold wrap64; omega
      · simp [hy, e]
    · simp [h, hz]
  · by_cases h : z = -1
    · subst h
      by_cases hy : y = -9223372036854775808
      · subst hy; simp
      · simp [hy]
    · simp [h, hz]
theorem div_r (y z : Int) (hz : z ≠ 0) : rotaref09_divided.f y z = some (divV 8 y z, divV 9 y z) := by
  unfold rotaref09_divided.f divV
  by_cases h : z = -1
  · simp [h]
  · simp [h, hz]
theorem set_set (r : Regs) (a : Nat) (ha : a < 16) (v u : Int) : (r.set a v).set a u = r.set a u := by
  match a, ha with
  | 0, _ | 1, _ | 2, _ | 3, _ | 4, _ | 5, _ | 6, _ | 7, _ | 8, _ | 9, _ | 10, _ | 11, _ | 12, _ | 13, _ | 14, _ | 15, _ => rfl
  | (n + 16), h => exact absurd h (by omega)
/-- What a step comes to. -/
def stepO (fl : List S75) (pc : Int) (r : Regs) (l : List Int) (clk slot gen : Int) (ok : Bool) (op : Int) (a b c : Nat) (m : Int) : Out :=
  let trap := fun (t : Int) => (⟨pc, r, l, wantC 58 0 0 0 0 0 0 0 0 t 0⟩ : Out)
  let set := fun (v : Int) => (⟨pc + 1, r.set a v, l, want0⟩ : Out)
  if ok = false then trap 1
  else if op = 1 then ⟨pc + 1, r, l, want0⟩
  else if op = 2 then set m
  else if op = 3 then set (wrap64 (wrap64 (r.get a * 65536) + m))
  else if op = 4 then set (r.get b)
  else if op = 8 then (if r.get c = 0 then trap 2 else set (divV 8 (r.get b) (r.get c)))
  else if op = 9 then (if r.get c = 0 then trap 2 else set (divV 9 (r.get b) (r.get c)))
  else if op = 17 then ⟨m, r, l, want0⟩
  else if op = 18 then (if r.get a = 0 then ⟨m, r, l, want0⟩ else ⟨pc + 1, r, l, want0⟩)
  else if op = 19 then (if r.get a = 0 then ⟨pc + 1, r, l, want0⟩ else ⟨m, r, l, want0⟩)
  else if op = 20 then (if 64 ≤ l.length then trap 3 else if (fl.length : Int) ≤ m then trap 1 else ⟨(rd_T75 fl m).f0, r, l ++ [pc + 1], want0⟩)
  else if op = 21 then (if l.length = 0 then ⟨pc + 1, r, l, wantC 24 0 0 0 0 0 0 0 0 0 0⟩ else ⟨rd l ((l.length : Int) - 1), r, l.take (l.length - 1), want0⟩)
  else if op = 23 then ⟨pc + 1, r, l, wantC 23 0 0 0 0 0 0 0 0 0 0⟩
  else if op = 24 then ⟨pc + 1, r, l, wantC 24 0 0 0 0 0 0 0 0 0 0⟩
  else if op = 25 then set (wrap64 (slot + wrap64 (gen * 4294967296)))
  else if op = 26 then set (wrap64 clk)
  else if op = 58 then ⟨pc, r, l, wantC 58 0 0 0 0 0 0 0 0 16 m⟩
  else match step_reckoned.f op (r.get b) (r.get c) with
    | some (v, true) => set v
    | _ => ⟨pc + 1, r, l, wantC op op a b c m (r.get a) (r.get b) (r.get c) 0 0⟩
end Go.Proofs.Ythjfmlehkcccfaa.Qstep
end
