import Derived.Test.YthjfmlehkcccfaaMSafe16
import Derived.Test.YthjfmlehkcccfaaMSafe23
import Derived.Test.YthjfmlehkcccfaaMSafe12
import Derived.Test.YthjfmlehkcccfaaMSafe24
import Derived.Test.YthjfmlehkcccfaaMSafe26
import Derived.Deep.QuietTactic
import Derived.BigQuiet
import Derived.Deep.MidRow
import Derived.Lib.Hide
import Derived.Outline
section
/-
  StepSafe, walked.
-/
set_option linter.unusedVariables false
set_option linter.unusedSimpArgs false
namespace Go.Proofs.Ythjfmlehkcccfaa.Hlaw10
open Go.RowKit Go.Proofs.YthjfmlehkcccfaaW.PrintWords Go.Proofs.YthjfmlehkcccfaaW.PrintLast Go.Proofs.YthjfmlehkcccfaaW.PrintMore GA Hctx Hsmall Qnext Qstep Qsafe Hs0 Hstepp Hlives Hans Hbegp

def IsShort (o : Out) : Prop := o.calls.length < 17592186044416
theorem isShort_ite {c : Prop} [Decidable c] {x y : Out} (hx : c → IsShort x) (hy : ¬ c → IsShort y) : IsShort (if c then x else y) := by
  split
  · exact hx ‹_›
  · exact hy ‹_›
theorem stepO_calls (fl : List S75) (pc : Int) (r : Regs) (l : List Int) (clk slot gen : Int) (ok : Bool) (op : Int) (a b c : Nat) (m : Int) (hlim : l.length < 17592186044416) : (stepO fl pc r l clk slot gen ok op a b c m).calls.length < 17592186044416 := by
  show IsShort (stepO fl pc r l clk slot gen ok op a b c m)
  unfold stepO
  dsimp only
  repeat' first
    | (with_reducible refine isShort_ite (fun _ => ?_) (fun _ => ?_))
    | (with_reducible exact hlim)
    | split
  all_goals unfold IsShort
  all_goals first
    | exact hlim
    | (simp only [List.length_append, List.length_cons, List.length_nil]; omega)
    | (simp only [List.length_take]; omega)

theorem next_of (l0 : List Int) (l1 : List S75) (l2 : List S98) (pc : Int) (r : Regs) (l : List Int) (hw : ∀ x ∈ l0, 0 ≤ x ∧ x < 4294967296) (h0 : 0 ≤ pc) (h1 : pc < l0.length) (op a b c m : Int) (h : rotaref06_Decode.f (rd l0 pc) = some (op, a, b, c, m, 0)) :
    step_next.f l0 l1 l2 pc r.r0 r.r1 r.r2 r.r3 r.r4 r.r5 r.r6 r.r7 r.r8 r.r9 r.r10 r.r11 r.r12 r.r13 r.r14 r.r15 l = some (op, a, b, c, m, true) := by
  unfold step_next.f
  rw [if_neg (by omega), if_neg (by omega), if_pos h0, if_pos h1]
  have hin : rd l0 pc ∈ l0 := by
    unfold rd
    rw [List.getD_eq_getElem?_getD, List.getElem?_eq_getElem (by omega)]
    exact List.getElem_mem _
  obtain ⟨b0, b1⟩ := hw _ hin
  rw [← Pure.ref_decode _ b0 b1, h]
  rfl
theorem step_safe (l0 : List Int) (l1 : List S75) (l2 : List S98) (pc : Int) (r : Regs) (l : List Int) (clk slot gen : Int) (hw : ∀ x ∈ l0, 0 ≤ x ∧ x < 4294967296) (hlim : l.length < 17592186044416) (hS : Qsafe.Safe l0 l1) (hI : Within l0.length pc l) :
    ∃ (pc' : Int) (r' : Regs) (l' : List Int) (q1 q2 q3 q4 q5 q6 q7 q8 q9 q10 q11 : Int), l'.length < 17592186044416 ∧ (∀ (A0 A1 A2 : Option Addr) (c0 c1 c2 : Nat) (A : Option Addr) (c : Nat) (w : World), Kd.C (Kd.int .u32) w A0 l0.length l0 → l0.length ≤ c0 → Kd.C k75 w A1 l1.length l1 → l1.length ≤ c1 → Kd.C k98 w A2 l2.length l2 → l2.length ≤ c2 → Kd.C (Kd.int .i64) w A l.length l → l.length ≤ c → Calls Try.prog 11 #[.agg (#[.slice A0 l0.length c0, .slice A1 l1.length c1, .slice A2 l2.length c2] : Array Value), .agg (ctx pc r (.slice A l.length c)), .agg #[.int .u64 clk, .int .i64 slot, .int .i64 gen]] w (Post w pc' r' l' (wantC q1 q2 q3 q4 q5 q6 q7 q8 q9 q10 q11))) ∧ q10 ≠ 1 ∧ (q1 = 58 → q10 ≠ 0) ∧ (q1 ≠ 58 → q1 ≠ 24 → Within l0.length pc' l') := by
  obtain ⟨op, a, b, c', m, ok, n1, n2, ha, hb, hc, hz, hy⟩ := next_both l0 l1 l2 pc r l hw
  obtain ⟨i0, i1, i2⟩ := hI
  obtain ⟨op', a', b', c'', m', hd, w1, w2, w3⟩ := hS.2 pc i0 i1
  have n3 := next_of l0 l1 l2 pc r l hw i0 i1 _ _ _ _ _ hd
  rw [n1] at n3
  simp only [Option.some.injEq, Prod.mk.injEq] at n3
  obtain ⟨rfl, rfl, rfl, rfl, rfl, rfl⟩ := n3
  obtain ⟨_, _, _, _, hm⟩ := hy rfl
  obtain ⟨q1, q2, q3, q4, q5, q6, q7, q8, q9, q10, q11, hq, g1, g2, g3⟩ := stepO_safe (n := l0.length) (pc := pc) (r := r) (l := l) l1 clk slot gen op a b c' m i0 i1 i2 hm w1 w2 w3 (fun j h1 h2 => hS.1 j h1 h2)
  refine ⟨(stepO l1 pc r l clk slot gen true op a b c' m).pc, (stepO l1 pc r l clk slot gen true op a b c' m).r, (stepO l1 pc r l clk slot gen true op a b c' m).calls, q1, q2, q3, q4, q5, q6, q7, q8, q9, q10, q11, stepO_calls l1 pc r l clk slot gen true op a b c' m hlim, ?_, g1, g2, g3⟩
  intro A0 A1 A2 c0 c1 c2 A c w h0 k0 h1 k1 h2 k2 hl kl
  rw [← hq]
  exact p_step l0 l1 l2 A0 A1 A2 c0 c1 c2 pc r A c l clk slot gen w h0 k0 h1 k1 h2 k2 hl kl hlim op a b c' m true n1 ha hb hc hz hy
theorem begin_bad (l0 : List Int) (l1 : List S75) (l2 : List S98) (A0 A1 A2 : Option Addr) (c0 c1 c2 : Nat) (f : Int) (r : Regs) (w : World)
    (h0 : Kd.C (Kd.int .u32) w A0 l0.length l0) (k0 : l0.length ≤ c0) (h1 : Kd.C k75 w A1 l1.length l1) (k1 : l1.length ≤ c1) (h2 : Kd.C k98 w A2 l2.length l2) (k2 : l2.length ≤ c2) (hf : ¬ (0 ≤ f ∧ f < l1.length)) :
    Calls Try.prog 16 #[.agg (#[.slice A0 l0.length c0, .slice A1 l1.length c1, .slice A2 l2.length c2] : Array Value), .int .i64 f, .agg (regsA r)] w fun x w' => x = .returned (.tuple #[.agg (ctx 0 zeroR (.slice none 0 0)), .int .i64 1]) ∧ Below w.heap.size w w' := by
  by_cases h : f < 0
  · exact begin16_neg l0 l1 l2 A0 A1 A2 c0 c1 c2 f r w h0 k0 h1 k1 h2 k2 h
  · exact begin16_big l0 l1 l2 A0 A1 A2 c0 c1 c2 f r w h0 k0 h1 k1 h2 k2 (by omega) (by omega)
theorem Mem.nilRow {es : List TypeId} {w0 W : World} {L : List (Nat × Array Value × TypeId)} (M : Mem es w0 W L []) (h : 3 ∈ es) : Mem es w0 W L [⟨Kd.int .i64, 3, .slice Option.none 0 0, []⟩] :=
  ⟨M.below, M.blk, M.apart, (fun r hr => by
    rw [List.mem_singleton] at hr; subst hr
    intro q hq
    rcases List.mem_cons.1 hq with rfl | hq
    · exact h
    · exact absurd hq (by simp [Kd.int, Kd.scalar])), (fun i r hr => by
    cases i with
    | zero => obtain rfl : _ = r := by simpa using hr
              exact Kd.R_nil _ _ _ _ _
    | succ i => simp at hr)⟩

set_option maxHeartbeats 4000000 in
set_option maxRecDepth 100000 in
theorem law_safe (l0 : List Int) (l1 : List S75) (l2 : List S98) (A0 A1 A2 : Option Addr) (c0 c1 c2 : Nat) (f : Int) (w : World)
    (h0 : Kd.C (Kd.int .u32) w A0 l0.length l0) (k0 : l0.length ≤ c0) (h1 : Kd.C k75 w A1 l1.length l1) (k1 : l1.length ≤ c1) (h2 : Kd.C k98 w A2 l2.length l2) (k2 : l2.length ≤ c2) (A3 : Option Addr) (c3 : Nat) (la : List Int) (h3 : Kd.C (Kd.int .i64) w A3 la.length la) (k3 : la.length ≤ c3) (hla : la.length < 17592186044416)
    (b0 : l0.length < 1125899906842624) (b1 : l1.length < 1125899906842624) (b2 : l2.length < 1125899906842624) (b3 : ∀ x ∈ l2, x.f0.length < 1125899906842624) (hw : ∀ x ∈ l0, 0 ≤ x ∧ x < 4294967296) :
    Calls Try.prog 10 #[.agg (#[.slice A0 l0.length c0, .slice A1 l1.length c1, .slice A2 l2.length c2] : Array Value), .int .i64 f, .slice A3 la.length c3] w fun e w' => e = .returned (.bool true) ∧ Below w.heap.size w w' := by
  obtain ⟨kk, e0_, e, hck, hsafe⟩ := check_some l0 l1 l2 hw b0 b1 b2 b3
  have HCK := Lib.hid hck
  have HSAFE := Lib.hid hsafe
  have hbad : step_next.f l0 l1 l2 (-1) zeroR.r0 zeroR.r1 zeroR.r2 zeroR.r3 zeroR.r4 zeroR.r5 zeroR.r6 zeroR.r7 zeroR.r8 zeroR.r9 zeroR.r10 zeroR.r11 zeroR.r12 zeroR.r13 zeroR.r14 zeroR.r15 [] = some (0, 0, 0, 0, 0, false) := by
    unfold step_next.f
    rw [if_pos (by decide)]
  have HBAD := Lib.hid hbad
  have HW := Aside0.mk hw
  have HA := Aside0.mk h3
  clear hck hsafe hbad hw h3 b0 b1 b2 b3
  have hu26 := Try.underlying26
  have hu30 := Try.underlying30
  have hu37 := Try.underlying37
  have H0 := Aside0.mk h0
  clear h0
  have H1 := Aside0.mk h1
  clear h1
  have H2 := Aside0.mk h2
  clear h2
  have M0 := Aside0.mk (Mem.start [3] w)
  go_enter Try.func10, Try.ntmps10
  go_wp2_with (first
      | (refine eB M0 3 (#[.slice A0 l0.length c0, .slice A1 l1.length c1, .slice A2 l2.length c2] : Array Value) 26 ?_; clear M0; intro g3 w3 M1))
  refine (lives_calls _).mono ?_
  rintro e W15 ⟨rfl, hb⟩
  have M2 := Aside0.mk (Mem.call M1.out hb)
  clear M1 hb
  go_wp2_with (first
      | (refine eL M2 18 0 hu26 ?_))
  refine (rotaref08_Check.calls kk A0 c0 l0 A1 c1 l1 A2 c2 l2 e0_ e _ (Kd.C_below H0.out M2.out.below) k0 (Kd.C_below H1.out M2.out.below) k1 (Kd.C_below H2.out M2.out.below) k2 HCK.out).mono ?_
  rintro e W19 ⟨rfl, hb⟩
  have M3 := Aside0.mk (Mem.call M2.out hb)
  clear M2 hb
  by_cases bE : e = 0
  · have e0 : (e != 0) = false := bne_eq_false_iff_eq.mpr bE
    have HS := Aside0.mk (HSAFE.out bE)
    clear bE
    by_cases bF : 0 ≤ f ∧ f < l1.length
    · go_wp2_with (first
          | (refine eL M3 35 0 hu26 ?_))
      refine (begin16_ok l0 l1 l2 A0 A1 A2 c0 c1 c2 f ⟨1, 2, 3, 0, 0, 0, 0, 0, 0, 0, 0, 0, 0, 0, 0, 0⟩ _ (Kd.C_below H0.out M3.out.below) k0 (Kd.C_below H1.out M3.out.below) k1 (Kd.C_below H2.out M3.out.below) k2 bF.1 bF.2).mono ?_
      rintro e W38 ⟨rfl, hb⟩
      have M4 := Aside0.mk (Mem.call M3.out hb)
      clear M3 hb
      go_wp2_with (first
          | (refine eB M4 11 (ctx 0 zeroR (.slice none 0 0)) 30 ?_; clear M4; intro g11 w11 M5)
          | (refine eR M5 30 11 1 (ctx (rd_T75 l1 f).f0 ⟨1, 2, 3, 0, 0, 0, 0, 0, 0, 0, 0, 0, 0, 0, 0, 0⟩ (.slice none 0 0)) ?_; clear M5; intro w_ M6))
      go_loopw [13] (fun v13 wr => ∃ (k : Nat) (pc : Int) (r : Regs) (lc : List Int) (B : Option Addr) (cB : Nat), k ≤ la.length ∧ v13 = .int .i64 k ∧ lc.length < 17592186044416 ∧ Within l0.length pc lc ∧ Mem [3] w wr [(g3, (#[.slice A0 l0.length c0, .slice A1 l1.length c1, .slice A2 l2.length c2] : Array Value), 26), (g11, (ctx pc r (.slice B lc.length cB)), 30)] [⟨Kd.int .i64, 3, .slice B lc.length cB, lc⟩]) (fun v13 _ => la.length - (intOf v13).toNat)
      case atStart => exact ⟨0, (rd_T75 l1 f).f0, ⟨1, 2, 3, 0, 0, 0, 0, 0, 0, 0, 0, 0, 0, 0, 0, 0⟩, [], none, 0, by omega, rfl, by decide, ⟨(HS.out.1 f bF.1 bF.2).1, (HS.out.1 f bF.1 bF.2).2, fun x hx => by cases hx⟩, Mem.nilRow M6.out (by decide)⟩
      obtain ⟨k, pc, r, lc, B, cB, hk, rfl, hlc, hI, M⟩ := hrel
      have HI := Aside0.mk hI
      have ML := Aside0.mk M
      clear hI M M6
      have M7 := ML
      clear ML
      by_cases bK : k < la.length
      · obtain ⟨pc', r', l', q1, q2, q3, q4, q5, q6, q7, q8, q9, q10, q11, hlim', c11, g1, g2, g3⟩ := step_safe l0 l1 l2 pc r lc (k : Int) 0 0 HW.out hlc HS.out HI.out
        have C11 := Lib.hid c11
        have G2 := Lib.hid g2
        have G3 := Lib.hid g3
        have e10 : (q10 == 1) = false := beq_eq_false_iff_ne.mpr g1
        clear c11 g1 g2 g3
        obtain ⟨ad, rfl, hx⟩ := Kd.at_int HA.out (k : Int) (by omega) (by omega)
        rw [Int.toNat_natCast] at hx
        have HT := Cells.one hx
        clear hx
        have p1 : (0 : Int) ≤ (k : Int) := by omega
        have p2 : (k : Int) < (la.length : Int) := by omega
        have p3 : (k : Int) < 9223372036854775807 := by omega
        go_wp2_with (first
            | (refine eB M7 14 want0 40 ?_; clear M7; intro g14 w14 M8)
            | (refine eR M8 40 14 2 want0 ?_; clear M8; intro w_ M9)
            | (refine eL M9 60 0 hu26 ?_)
            | (refine eL M9 61 1 hu30 ?_))
        refine (C11.out A0 A1 A2 c0 c1 c2 B cB _ (Kd.C_below H0.out M9.out.below) k0 (Kd.C_below H1.out M9.out.below) k1 (Kd.C_below H2.out M9.out.below) k2 (Kd.R_reads' M9.out.own).2.2 (Kd.R_reads' M9.out.own).2.1).mono ?_
        rintro e W65 ⟨v65, rfl, hR, hb⟩
        obtain ⟨A65, c65, rfl⟩ := Kd.R_slice hR
        have M10 := Aside0.mk (Mem.row M9.out hb hR)
        clear M9 hR hb
        by_cases b1 : q1 = 58
        · have e1 : (q1 == 58) = true := beq_iff_eq.mpr b1
          have e11 : (q10 == 0) = false := beq_eq_false_iff_ne.mpr (G2.out b1)
          clear b1
          go_wp2_with (first
              | (refine eR M10 30 11 1 (ctx pc' r' (.slice A65 l'.length c65)) ?_; clear M10; intro w_ M11)
              | (refine eR M11 40 14 2 (wantC q1 q2 q3 q4 q5 q6 q7 q8 q9 q10 q11) ?_; clear M11; intro w_ M12)
              | (refine eC M12 69 2 9 (.int .i64 q10) ?_)
              | ((with_reducible refine gate_dst (N := 73) rfl ?_); (refine gate_guard (by rfl) ?_; dsimp only); refine eC M12 73 2 0 (.int .i64 q1) ?_)
              | ((with_reducible refine gate_dst (N := 77) rfl ?_); (refine gate_guard (by rfl) ?_; dsimp only); refine eC M12 77 2 9 (.int .i64 q10) ?_)
              | (refine eC M12 82 2 0 (.int .i64 q1) ?_))
          go_ret
          exact ⟨rfl, M12.out.below⟩
        · have e1 : (q1 == 58) = false := beq_eq_false_iff_ne.mpr b1
          have N58 := Lib.hid b1
          clear b1
          by_cases b2 : q1 = 24
          · have e2 : (q1 == 24) = true := beq_iff_eq.mpr b2
            clear b2
            go_wp2_with (first
                | (refine eR M10 30 11 1 (ctx pc' r' (.slice A65 l'.length c65)) ?_; clear M10; intro w_ M11)
                | (refine eR M11 40 14 2 (wantC q1 q2 q3 q4 q5 q6 q7 q8 q9 q10 q11) ?_; clear M11; intro w_ M12)
                | (refine eC M12 69 2 9 (.int .i64 q10) ?_)
                | ((with_reducible refine gate_dst (N := 73) rfl ?_); (refine gate_guard (by rfl) ?_; dsimp only); refine eC M12 73 2 0 (.int .i64 q1) ?_)
                | (refine eC M12 82 2 0 (.int .i64 q1) ?_)
                | ((with_reducible refine gate_dst (N := 86) rfl ?_); (refine gate_guard (by rfl) ?_; dsimp only); refine eC M12 86 2 0 (.int .i64 q1) ?_))
            go_ret
            exact ⟨rfl, M12.out.below⟩
          · have e2 : (q1 == 24) = false := beq_eq_false_iff_ne.mpr b2
            have HJ := Aside0.mk (G3.out N58.out b2)
            have f2 : decide (pc' < 0) = false := by have := HJ.out.1; simpa using this
            have f3 : decide (pc' ≥ (l0.length : Int)) = false := by have := HJ.out.2.1; simpa using this
            clear b2
            go_wp2_with (first
                | (refine eR M10 30 11 1 (ctx pc' r' (.slice A65 l'.length c65)) ?_; clear M10; intro w_ M11)
                | (refine eR M11 40 14 2 (wantC q1 q2 q3 q4 q5 q6 q7 q8 q9 q10 q11) ?_; clear M11; intro w_ M12)
                | (refine eC M12 69 2 9 (.int .i64 q10) ?_)
                | ((with_reducible refine gate_dst (N := 73) rfl ?_); (refine gate_guard (by rfl) ?_; dsimp only); refine eC M12 73 2 0 (.int .i64 q1) ?_)
                | (refine eC M12 82 2 0 (.int .i64 q1) ?_)
                | ((with_reducible refine gate_dst (N := 86) rfl ?_); (refine gate_guard (by rfl) ?_; dsimp only); refine eC M12 86 2 0 (.int .i64 q1) ?_)
                | (refine eC M12 90 1 0 (.int .i64 pc') ?_)
                | ((with_reducible refine gate_dst (N := 94) rfl ?_); (refine gate_guard (by rfl) ?_; dsimp only); refine eC M12 94 1 0 (.int .i64 pc') ?_)
                | ((with_reducible refine gate_dst (N := 96) rfl ?_); (refine gate_guard (by rfl) ?_; dsimp only); refine eC M12 96 0 0 (.slice A0 l0.length c0) ?_))
            refine dJoin (σ := (Option Addr) × (Nat)) (fun s => [(100, .agg (ctx pc' r' (.slice A65 l'.length c65))), (101, .pointer (some ⟨g14, 1, none⟩)), (102, .agg #[.int .i64 q2, .int .i64 q3, .int .i64 q4, .int .i64 q5, .int .i64 q6]), (103, .slice (some ad) la.length c3), (104, .int .i64 (k : Int)), (105, .pointer (some (ad.add k))), (106, .int .i64 (rd la k)), (107, .slice (some ad) la.length c3), (108, .int .i64 (k : Int)), (109, .pointer (some (ad.add k))), (110, .int .i64 (rd la k)), (111, .agg (ctx pc' (ansR q2 q3 q4 q5 (rd la k) (rd la k) r') (.slice s.1 l'.length s.2)))]) (fun s w' => Aside0 (Mem [3] w w' [(g3, (#[.slice A0 l0.length c0, .slice A1 l1.length c1, .slice A2 l2.length c2] : Array Value), 26), (g11, (ctx pc' (ansR q2 q3 q4 q5 (rd la k) (rd la k) r') (.slice s.1 l'.length s.2)), 30), (g14, (wantC q1 q2 q3 q4 q5 q6 q7 q8 q9 q10 q11), 40)] [⟨Kd.int .i64, 3, .slice s.1 l'.length s.2, l'⟩, ⟨Kd.int .i64, 3, .slice A65 l'.length c65, l'⟩, ⟨Kd.int .i64, 3, .slice B lc.length cB, lc⟩])) ?_ (fun hK => ?_)
            rotate_left
            · simp only [putAll, Act.put, List.setIfInBounds_toArray, List.set_cons_zero, List.set_cons_succ] at hK
              refine dStart [12] [((ad.add k), (.int .i64 (rd la k)))] M12 (fun w' M => ?_)
              clear M12
              have M13 := M
              clear M
              refine dL M13 0 100 1 hu30 ?_
              simp only [Act.put, List.setIfInBounds_toArray, List.set_cons_zero, List.set_cons_succ]
              refine dP 1 101 (.pointer (some ⟨g14, 1, none⟩)) ?_
              simp only [Act.put, List.setIfInBounds_toArray, List.set_cons_zero, List.set_cons_succ]
              refine dM M13 2 102 2 1 [.int .i64 q2, .int .i64 q3, .int .i64 q4, .int .i64 q5, .int .i64 q6] hu37 ?_
              simp only [Act.put, List.setIfInBounds_toArray, List.set_cons_zero, List.set_cons_succ]
              refine dP 3 103 (.slice (some ad) la.length c3) ?_
              simp only [Act.put, List.setIfInBounds_toArray, List.set_cons_zero, List.set_cons_succ]
              refine dP 4 104 (.int .i64 (k : Int)) ?_
              simp only [Act.put, List.setIfInBounds_toArray, List.set_cons_zero, List.set_cons_succ]
              refine dP 5 105 (.pointer (some (ad.add k))) ?_
              simp only [Act.put, List.setIfInBounds_toArray, List.set_cons_zero, List.set_cons_succ]
              refine dE M13 6 106 0 ?_
              simp only [Act.put, List.setIfInBounds_toArray, List.set_cons_zero, List.set_cons_succ]
              refine dP 7 107 (.slice (some ad) la.length c3) ?_
              simp only [Act.put, List.setIfInBounds_toArray, List.set_cons_zero, List.set_cons_succ]
              refine dP 8 108 (.int .i64 (k : Int)) ?_
              simp only [Act.put, List.setIfInBounds_toArray, List.set_cons_zero, List.set_cons_succ]
              refine dP 9 109 (.pointer (some (ad.add k))) ?_
              simp only [Act.put, List.setIfInBounds_toArray, List.set_cons_zero, List.set_cons_succ]
              refine dE M13 10 110 0 ?_
              simp only [Act.put, List.setIfInBounds_toArray, List.set_cons_zero, List.set_cons_succ]
              refine dR [11] ?_
              refine qK 11 111 Try.func20 #[.agg (ctx pc' r' (.slice A65 l'.length c65)), .agg #[.int .i64 q2, .int .i64 q3, .int .i64 q4, .int .i64 q5, .int .i64 q6], .int .i64 (rd la k), .int .i64 (rd la k)] ?_ ?_
              · refine (answer20 q2 q3 q4 q5 q6 (rd la k) (rd la k) pc' r' A65 c65 l' _ (Kd.R_reads' (M13.out.ownAt 0 rfl)).2.2 (Kd.R_reads' (M13.out.ownAt 0 rfl)).2.1 hlim').mono ?_
                rintro e W111 ⟨v111, rfl, hR, hb⟩
                obtain ⟨A111, c111, rfl⟩ := Kd.R_slice hR
                have M14 := Aside0.mk (Mem.row M13.out hb hR)
                clear M13 hb hR
                refine ⟨_, rfl, M14.out.held HT rfl, ?_⟩
                simp only [Act.put, List.setIfInBounds_toArray, List.set_cons_zero, List.set_cons_succ]
                refine dR [12] ?_
                refine qS M14 12 30 11 1 (ctx pc' (ansR q2 q3 q4 q5 (rd la k) (rd la k) r') (.slice A111 l'.length c111)) ?_ ?_
                · clear M14
                  intro w_ M15
                  refine dDone ?_
                  exact hK (A111, c111) _ M15
                exact AllReadyL.nil
              exact AllReadyL.nil
            rintro ⟨A111, c111⟩ W_21 M16
            dsimp only at M16 ⊢
            simp only [putAll, Act.put, List.setIfInBounds_toArray, List.set_cons_zero, List.set_cons_succ]
            go_wp2_with fail
            go_roundw
            case rel => exact ⟨k + 1, pc', (ansR q2 q3 q4 q5 (rd la k) (rd la k) r'), l', _, _, by omega, by go_num, hlim', HJ.out, (M16.out.forget 2).pick1 0 rfl⟩
            case measure => simp [intOf]; omega
      · have p2 : ¬ (k : Int) < (la.length : Int) := by omega
        go_wp2_with fail
        go_ret
        exact ⟨rfl, M7.out.below⟩
    · go_wp2_with (first
          | (refine eL M3 35 0 hu26 ?_))
      refine (begin_bad l0 l1 l2 A0 A1 A2 c0 c1 c2 f ⟨1, 2, 3, 0, 0, 0, 0, 0, 0, 0, 0, 0, 0, 0, 0, 0⟩ _ (Kd.C_below H0.out M3.out.below) k0 (Kd.C_below H1.out M3.out.below) k1 (Kd.C_below H2.out M3.out.below) k2 bF).mono ?_
      rintro e W38 ⟨rfl, hb⟩
      have M4 := Aside0.mk (Mem.call M3.out hb)
      clear M3 hb
      by_cases bN : f < 0
      · have bN0 : decide (f < 0) = true := decide_eq_true bN
        go_wp2_with (first
            | (refine eB M4 11 (ctx 0 zeroR (.slice none 0 0)) 30 ?_; clear M4; intro g11 w11 M5)
            | (refine eR M5 30 11 1 (ctx 0 zeroR (.slice none 0 0)) ?_; clear M5; intro w_ M6))
        go_ret
        exact ⟨rfl, M6.out.below⟩
      · have bN0 : decide (f < 0) = false := decide_eq_false bN
        have bN1 : decide ((l1.length : Int) ≤ f) = true := decide_eq_true (by omega)
        go_wp2_with (first
            | (refine eB M4 11 (ctx 0 zeroR (.slice none 0 0)) 30 ?_; clear M4; intro g11 w11 M5)
            | (refine eR M5 30 11 1 (ctx 0 zeroR (.slice none 0 0)) ?_; clear M5; intro w_ M6)
            | ((with_reducible refine gate_dst (N := 48) rfl ?_); (refine gate_guard (by rfl) ?_; dsimp only); refine eC M6 48 0 1 (.slice A1 l1.length c1) ?_))
        go_ret
        exact ⟨rfl, M6.out.below⟩
  · have e0 : (e != 0) = true := bne_iff_ne.mpr bE
    clear bE
    go_wp2_with (first
        | (refine eL M3 25 0 hu26 ?_))
    refine (p_bad l0 l1 l2 A0 A1 A2 c0 c1 c2 (-1) zeroR none 0 [] 0 0 0 _ (Kd.C_below H0.out M3.out.below) k0 (Kd.C_below H1.out M3.out.below) k1 (Kd.C_below H2.out M3.out.below) k2 (Kd.C_nil _ _) (Nat.le_refl _) (by decide) HBAD.out).mono ?_
    rintro e W28 ⟨v28, rfl, hR, hb⟩
    obtain ⟨A28, c28, rfl⟩ := Kd.R_slice hR
    have M4 := Aside0.mk (Mem.row M3.out hb hR)
    clear M3 hR hb
    go_wp2_with (first
        | (refine eB M4 9 (ctx 0 zeroR (.slice none 0 0)) 30 ?_; clear M4; intro g9 w9 M5)
        | (refine eB M5 10 want0 40 ?_; clear M5; intro g10 w10 M6)
        | (refine eR M6 30 9 1 (ctx (-1) zeroR (.slice A28 0 c28)) ?_; clear M6; intro w_ M7)
        | (refine eR M7 40 10 2 (wantC 58 0 0 0 0 0 0 0 0 1 0) ?_; clear M7; intro w_ M8)
        | (refine eC M8 32 2 9 (.int .i64 1) ?_))
    go_ret
    exact ⟨rfl, M8.out.below⟩
end Go.Proofs.Ythjfmlehkcccfaa.Hlaw10
end
