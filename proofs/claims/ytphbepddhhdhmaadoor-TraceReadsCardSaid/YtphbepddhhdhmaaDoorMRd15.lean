import Derived.Test.YtphbepddhhdhmaaDoorMRd14
import Derived.Test.YtphbepddhhdhmaaDoorMRd1
import Derived.Deep.QuietTactic
import Derived.BigQuiet
import Derived.Lib.Hide
import Derived.WalkKit
import Derived.Outline
section
/-
  rotaref25.event, walked.
-/
set_option linter.unusedVariables false
set_option linter.unusedSimpArgs false
namespace Go.Proofs.YtphbepddhhdhmaaDoor.Hof
open Go.RowKit Go.Shelf Go.Proofs.YtphbepddhhdhmaaDoorW.PrintWords Go.Proofs.YtphbepddhhdhmaaDoorW.PrintLast Go.Proofs.YtphbepddhhdhmaaDoorW.PrintMore GA Hctx Hof

set_option maxHeartbeats 4000000 in
set_option maxRecDepth 100000 in
theorem event_calls (s : ByteArray) (hs : s.size ≤ 268435457) (w : World) :
    Calls Tryd.prog 44 #[.string s] w fun e w' => ∃ x ok, e = .returned (.tuple #[.agg (evC x), .bool ok]) ∧ Reads s x ok ∧ Below w.heap.size w w' := by
  have hu36 := Tryd.underlying36
  have M0 := Aside0.mk (Mem.start [5] w)
  go_enter Tryd.func44, Tryd.ntmps44
  go_wp2_with (first
      | (refine eB M0 2 #[.int .u64 0, .int .i64 0, .int .i64 0, .int .i64 0, .int .i64 0, .int .i64 0, .int .i64 0, .int .i64 0] 36 ?_; clear M0; intro g2 w2 M1))
  refine (words_mem M1 s hs (by decide)).mono ?_
  rintro e W9 ⟨g9, cur, c9, rfl, MQ, hcur⟩
  have hcur' := Lib.hid hcur
  clear hcur
  have M2 := MQ
  clear MQ M1
  by_cases bN : (wds s).length = 8
  · obtain ⟨p0, p1, p2, p3, p4, p5, p6, p7, hp⟩ := list8 bN
    obtain ⟨hc0, hc1, hc2, hc3, hc4, hc5, hc6, hc7⟩ := list8c hp hcur'.out
    rw [bN]
    have e0 : (((8 : Nat) : Int) != 8) = false := rfl
    have z0 : p0.size ≤ 268435457 := Nat.le_trans (wds_size (by rw [hp]; simp)) hs
    have z1 : p1.size ≤ 268435457 := Nat.le_trans (wds_size (by rw [hp]; simp)) hs
    have z2 : p2.size ≤ 268435457 := Nat.le_trans (wds_size (by rw [hp]; simp)) hs
    have z3 : p3.size ≤ 268435457 := Nat.le_trans (wds_size (by rw [hp]; simp)) hs
    have z5 : p5.size ≤ 268435457 := Nat.le_trans (wds_size (by rw [hp]; simp)) hs
    have z6 : p6.size ≤ 268435457 := Nat.le_trans (wds_size (by rw [hp]; simp)) hs
    have z7 : p7.size ≤ 268435457 := Nat.le_trans (wds_size (by rw [hp]; simp)) hs
    obtain ⟨u, hu, hu0, hu1⟩ := digits_tot p0 z0 268435999 (by omega)
    obtain ⟨x1, hx1, ix1⟩ := Q.signed_some p1 (by omega) 268435999 (by omega)
    obtain ⟨x2, hx2, ix2⟩ := Q.signed_some p2 (by omega) 268435999 (by omega)
    obtain ⟨x3, hx3, ix3⟩ := Q.signed_some p3 (by omega) 268435999 (by omega)
    obtain ⟨y1, hy1, iy1⟩ := Q.signed_some p5 (by omega) 268435999 (by omega)
    obtain ⟨y2, hy2, iy2⟩ := Q.signed_some p6 (by omega) 268435999 (by omega)
    obtain ⟨y3, hy3, iy3⟩ := Q.signed_some p7 (by omega) 268435999 (by omega)
    have SAME := Lib.hid (fun y hy => valid_same2 (by decide) hp hu hx1 hx2 hx3 hy1 hy2 hy3 y hy)
    have hlt0 : ((0 : Int) < 8) := by decide
    clear bN z0 z1 z2 z3 z5 z6 z7
    go_wp2_with fail
    refine dJoin (σ := (Nat)) (fun s => [(5, .pointer (some ⟨s, 0, none⟩)), (14, .slice (some ⟨g9, 0, none⟩) 8 c9), (15, .pointer (some ⟨g9, 0, none⟩)), (16, .string p0), (17, .int .u64 u), (18, .slice (some ⟨g9, 0, none⟩) 8 c9), (19, .pointer (some ⟨g9, 1, none⟩)), (20, .string p1), (21, .int .i64 x1), (22, .slice (some ⟨g9, 0, none⟩) 8 c9), (23, .pointer (some ⟨g9, 2, none⟩)), (24, .string p2), (25, .int .i64 x2), (26, .slice (some ⟨g9, 0, none⟩) 8 c9), (27, .pointer (some ⟨g9, 3, none⟩)), (28, .string p3), (29, .int .i64 x3), (30, .agg #[.int .i64 x2, .int .i64 x3]), (31, .slice (some ⟨g9, 0, none⟩) 8 c9), (32, .pointer (some ⟨g9, 5, none⟩)), (33, .string p5), (34, .int .i64 y1), (35, .slice (some ⟨g9, 0, none⟩) 8 c9), (36, .pointer (some ⟨g9, 6, none⟩)), (37, .string p6), (38, .int .i64 y2), (39, .slice (some ⟨g9, 0, none⟩) 8 c9), (40, .pointer (some ⟨g9, 7, none⟩)), (41, .string p7), (42, .int .i64 y3), (43, .agg #[.int .u64 u, .int .i64 x1, .int .i64 x2, .int .i64 x3, .int .i64 0, .int .i64 y1, .int .i64 y2, .int .i64 y3])]) (fun s w' => Aside0 (Mem [5] w w' [(g2, #[.int .u64 0, .int .i64 0, .int .i64 0, .int .i64 0, .int .i64 0, .int .i64 0, .int .i64 0, .int .i64 0], 36), (g9, cur, 9), (s, #[.int .u64 u, .int .i64 x1, .int .i64 x2, .int .i64 x3, .int .i64 0, .int .i64 y1, .int .i64 y2, .int .i64 y3], 36)] [])) ?_ (fun hK => ?_)
    rotate_left
    · simp only [putAll, Act.put, List.setIfInBounds_toArray, List.set_cons_zero, List.set_cons_succ] at hK
      refine dStart [31] [] M2 (fun w' M => ?_)
      clear M2
      have M3 := M
      clear M
      refine dP 0 14 (.slice (some ⟨g9, 0, none⟩) 8 c9) ?_
      simp only [Act.put, List.setIfInBounds_toArray, List.set_cons_zero, List.set_cons_succ]
      refine dP 1 15 (.pointer (some ⟨g9, 0, none⟩)) ?_
      simp only [Act.put, List.setIfInBounds_toArray, List.set_cons_zero, List.set_cons_succ]
      refine dC M3 2 16 1 0 (.string p0) (hv := hc0) ?_
      simp only [Act.put, List.setIfInBounds_toArray, List.set_cons_zero, List.set_cons_succ]
      refine dP 4 18 (.slice (some ⟨g9, 0, none⟩) 8 c9) ?_
      simp only [Act.put, List.setIfInBounds_toArray, List.set_cons_zero, List.set_cons_succ]
      refine dP 5 19 (.pointer (some ⟨g9, 1, none⟩)) ?_
      simp only [Act.put, List.setIfInBounds_toArray, List.set_cons_zero, List.set_cons_succ]
      refine dC M3 6 20 1 1 (.string p1) (hv := hc1) ?_
      simp only [Act.put, List.setIfInBounds_toArray, List.set_cons_zero, List.set_cons_succ]
      refine dP 8 22 (.slice (some ⟨g9, 0, none⟩) 8 c9) ?_
      simp only [Act.put, List.setIfInBounds_toArray, List.set_cons_zero, List.set_cons_succ]
      refine dP 9 23 (.pointer (some ⟨g9, 2, none⟩)) ?_
      simp only [Act.put, List.setIfInBounds_toArray, List.set_cons_zero, List.set_cons_succ]
      refine dC M3 10 24 1 2 (.string p2) (hv := hc2) ?_
      simp only [Act.put, List.setIfInBounds_toArray, List.set_cons_zero, List.set_cons_succ]
      refine dP 12 26 (.slice (some ⟨g9, 0, none⟩) 8 c9) ?_
      simp only [Act.put, List.setIfInBounds_toArray, List.set_cons_zero, List.set_cons_succ]
      refine dP 13 27 (.pointer (some ⟨g9, 3, none⟩)) ?_
      simp only [Act.put, List.setIfInBounds_toArray, List.set_cons_zero, List.set_cons_succ]
      refine dC M3 14 28 1 3 (.string p3) (hv := hc3) ?_
      simp only [Act.put, List.setIfInBounds_toArray, List.set_cons_zero, List.set_cons_succ]
      refine dP 17 31 (.slice (some ⟨g9, 0, none⟩) 8 c9) ?_
      simp only [Act.put, List.setIfInBounds_toArray, List.set_cons_zero, List.set_cons_succ]
      refine dP 18 32 (.pointer (some ⟨g9, 5, none⟩)) ?_
      simp only [Act.put, List.setIfInBounds_toArray, List.set_cons_zero, List.set_cons_succ]
      refine dC M3 19 33 1 5 (.string p5) (hv := hc5) ?_
      simp only [Act.put, List.setIfInBounds_toArray, List.set_cons_zero, List.set_cons_succ]
      refine dP 21 35 (.slice (some ⟨g9, 0, none⟩) 8 c9) ?_
      simp only [Act.put, List.setIfInBounds_toArray, List.set_cons_zero, List.set_cons_succ]
      refine dP 22 36 (.pointer (some ⟨g9, 6, none⟩)) ?_
      simp only [Act.put, List.setIfInBounds_toArray, List.set_cons_zero, List.set_cons_succ]
      refine dC M3 23 37 1 6 (.string p6) (hv := hc6) ?_
      simp only [Act.put, List.setIfInBounds_toArray, List.set_cons_zero, List.set_cons_succ]
      refine dP 25 39 (.slice (some ⟨g9, 0, none⟩) 8 c9) ?_
      simp only [Act.put, List.setIfInBounds_toArray, List.set_cons_zero, List.set_cons_succ]
      refine dP 26 40 (.pointer (some ⟨g9, 7, none⟩)) ?_
      simp only [Act.put, List.setIfInBounds_toArray, List.set_cons_zero, List.set_cons_succ]
      refine dC M3 27 41 1 7 (.string p7) (hv := hc7) ?_
      simp only [Act.put, List.setIfInBounds_toArray, List.set_cons_zero, List.set_cons_succ]
      refine dR [3, 30] ?_
      refine qK 3 17 Tryd.func57 #[.string p0] ?_ ?_
      · refine (rotaref25_digits.calls 268435999 p0 u _ hu).mono ?_
        rintro e W17 ⟨rfl, hb⟩
        have M4 := Aside0.mk (Mem.drawn M3.out hb)
        clear M3 hb
        refine ⟨_, rfl, M4.out.held (Cells.nil _) rfl, ?_⟩
        simp only [Act.put, List.setIfInBounds_toArray, List.set_cons_zero, List.set_cons_succ]
        refine dR [7, 30] ?_
        refine qK 7 21 Tryd.func58 #[.string p1] ?_ ?_
        · refine (rotaref25_signed.calls 268435999 p1 x1 _ hx1).mono ?_
          rintro e W21 ⟨rfl, hb⟩
          have M5 := Aside0.mk (Mem.drawn M4.out hb)
          clear M4 hb
          refine ⟨_, rfl, M5.out.held (Cells.nil _) rfl, ?_⟩
          simp only [Act.put, List.setIfInBounds_toArray, List.set_cons_zero, List.set_cons_succ]
          refine dR [11, 30] ?_
          refine qK 11 25 Tryd.func58 #[.string p2] ?_ ?_
          · refine (rotaref25_signed.calls 268435999 p2 x2 _ hx2).mono ?_
            rintro e W25 ⟨rfl, hb⟩
            have M6 := Aside0.mk (Mem.drawn M5.out hb)
            clear M5 hb
            refine ⟨_, rfl, M6.out.held (Cells.nil _) rfl, ?_⟩
            simp only [Act.put, List.setIfInBounds_toArray, List.set_cons_zero, List.set_cons_succ]
            refine dR [15, 30] ?_
            refine qK 15 29 Tryd.func58 #[.string p3] ?_ ?_
            · refine (rotaref25_signed.calls 268435999 p3 x3 _ hx3).mono ?_
              rintro e W29 ⟨rfl, hb⟩
              have M7 := Aside0.mk (Mem.drawn M6.out hb)
              clear M6 hb
              refine ⟨_, rfl, M7.out.held (Cells.nil _) rfl, ?_⟩
              simp only [Act.put, List.setIfInBounds_toArray, List.set_cons_zero, List.set_cons_succ]
              refine dP 16 30 (.agg #[.int .i64 x2, .int .i64 x3]) ?_
              simp only [Act.put, List.setIfInBounds_toArray, List.set_cons_zero, List.set_cons_succ]
              refine dR [20, 30] ?_
              refine qK 20 34 Tryd.func58 #[.string p5] ?_ ?_
              · refine (rotaref25_signed.calls 268435999 p5 y1 _ hy1).mono ?_
                rintro e W34 ⟨rfl, hb⟩
                have M8 := Aside0.mk (Mem.drawn M7.out hb)
                clear M7 hb
                refine ⟨_, rfl, M8.out.held (Cells.nil _) rfl, ?_⟩
                simp only [Act.put, List.setIfInBounds_toArray, List.set_cons_zero, List.set_cons_succ]
                refine dR [24, 30] ?_
                refine qK 24 38 Tryd.func58 #[.string p6] ?_ ?_
                · refine (rotaref25_signed.calls 268435999 p6 y2 _ hy2).mono ?_
                  rintro e W38 ⟨rfl, hb⟩
                  have M9 := Aside0.mk (Mem.drawn M8.out hb)
                  clear M8 hb
                  refine ⟨_, rfl, M9.out.held (Cells.nil _) rfl, ?_⟩
                  simp only [Act.put, List.setIfInBounds_toArray, List.set_cons_zero, List.set_cons_succ]
                  refine dR [28, 30] ?_
                  refine qK 28 42 Tryd.func58 #[.string p7] ?_ ?_
                  · refine (rotaref25_signed.calls 268435999 p7 y3 _ hy3).mono ?_
                    rintro e W42 ⟨rfl, hb⟩
                    have M10 := Aside0.mk (Mem.drawn M9.out hb)
                    clear M9 hb
                    refine ⟨_, rfl, M10.out.held (Cells.nil _) rfl, ?_⟩
                    simp only [Act.put, List.setIfInBounds_toArray, List.set_cons_zero, List.set_cons_succ]
                    refine dP 29 43 (.agg #[.int .u64 u, .int .i64 x1, .int .i64 x2, .int .i64 x3, .int .i64 0, .int .i64 y1, .int .i64 y2, .int .i64 y3]) ?_
                    simp only [Act.put, List.setIfInBounds_toArray, List.set_cons_zero, List.set_cons_succ]
                    refine dR [30] ?_
                    refine qA M10 30 5 36 #[.int .u64 0, .int .i64 0, .int .i64 0, .int .i64 0, .int .i64 0, .int .i64 0, .int .i64 0, .int .i64 0] ?_ AllReadyL.nil
                    clear M10
                    intro g5 w5 M11
                    simp only [Act.put, List.setIfInBounds_toArray, List.set_cons_zero, List.set_cons_succ]
                    refine dR [31] ?_
                    refine qS M11 31 36 5 2 #[.int .u64 u, .int .i64 x1, .int .i64 x2, .int .i64 x3, .int .i64 0, .int .i64 y1, .int .i64 y2, .int .i64 y3] ?_ AllReadyL.nil
                    clear M11
                    intro w_ M12
                    refine dDone ?_
                    exact hK (g5) _ M12
                  refine qA M9 30 5 36 #[.int .u64 0, .int .i64 0, .int .i64 0, .int .i64 0, .int .i64 0, .int .i64 0, .int .i64 0, .int .i64 0] ?_ ?_
                  · clear M9
                    intro g5 w5 M10
                    simp only [Act.put, List.setIfInBounds_toArray, List.set_cons_zero, List.set_cons_succ]
                    refine dR [28] ?_
                    refine qK 28 42 Tryd.func58 #[.string p7] ?_ AllReadyL.nil
                    refine (rotaref25_signed.calls 268435999 p7 y3 _ hy3).mono ?_
                    rintro e W42 ⟨rfl, hb⟩
                    have M11 := Aside0.mk (Mem.drawn M10.out hb)
                    clear M10 hb
                    refine ⟨_, rfl, M11.out.held (Cells.nil _) rfl, ?_⟩
                    simp only [Act.put, List.setIfInBounds_toArray, List.set_cons_zero, List.set_cons_succ]
                    refine dP 29 43 (.agg #[.int .u64 u, .int .i64 x1, .int .i64 x2, .int .i64 x3, .int .i64 0, .int .i64 y1, .int .i64 y2, .int .i64 y3]) ?_
                    simp only [Act.put, List.setIfInBounds_toArray, List.set_cons_zero, List.set_cons_succ]
                    refine dR [31] ?_
                    refine qS M11 31 36 5 2 #[.int .u64 u, .int .i64 x1, .int .i64 x2, .int .i64 x3, .int .i64 0, .int .i64 y1, .int .i64 y2, .int .i64 y3] ?_ AllReadyL.nil
                    clear M11
                    intro w_ M12
                    refine dDone ?_
                    exact hK (g5) _ M12
                  exact AllReadyL.nil
                refine qA M8 30 5 36 #[.int .u64 0, .int .i64 0, .int .i64 0, .int .i64 0, .int .i64 0, .int .i64 0, .int .i64 0, .int .i64 0] ?_ ?_
                · clear M8
                  intro g5 w5 M9
                  simp only [Act.put, List.setIfInBounds_toArray, List.set_cons_zero, List.set_cons_succ]
                  refine dR [24] ?_
                  refine qK 24 38 Tryd.func58 #[.string p6] ?_ AllReadyL.nil
                  refine (rotaref25_signed.calls 268435999 p6 y2 _ hy2).mono ?_
                  rintro e W38 ⟨rfl, hb⟩
                  have M10 := Aside0.mk (Mem.drawn M9.out hb)
                  clear M9 hb
                  refine ⟨_, rfl, M10.out.held (Cells.nil _) rfl, ?_⟩
                  simp only [Act.put, List.setIfInBounds_toArray, List.set_cons_zero, List.set_cons_succ]
                  refine dR [28] ?_
                  refine qK 28 42 Tryd.func58 #[.string p7] ?_ AllReadyL.nil
                  refine (rotaref25_signed.calls 268435999 p7 y3 _ hy3).mono ?_
                  rintro e W42 ⟨rfl, hb⟩
                  have M11 := Aside0.mk (Mem.drawn M10.out hb)
                  clear M10 hb
                  refine ⟨_, rfl, M11.out.held (Cells.nil _) rfl, ?_⟩
                  simp only [Act.put, List.setIfInBounds_toArray, List.set_cons_zero, List.set_cons_succ]
                  refine dP 29 43 (.agg #[.int .u64 u, .int .i64 x1, .int .i64 x2, .int .i64 x3, .int .i64 0, .int .i64 y1, .int .i64 y2, .int .i64 y3]) ?_
                  simp only [Act.put, List.setIfInBounds_toArray, List.set_cons_zero, List.set_cons_succ]
                  refine dR [31] ?_
                  refine qS M11 31 36 5 2 #[.int .u64 u, .int .i64 x1, .int .i64 x2, .int .i64 x3, .int .i64 0, .int .i64 y1, .int .i64 y2, .int .i64 y3] ?_ AllReadyL.nil
                  clear M11
                  intro w_ M12
                  refine dDone ?_
                  exact hK (g5) _ M12
                exact AllReadyL.nil
              refine qA M7 30 5 36 #[.int .u64 0, .int .i64 0, .int .i64 0, .int .i64 0, .int .i64 0, .int .i64 0, .int .i64 0, .int .i64 0] ?_ ?_
              · clear M7
                intro g5 w5 M8
                simp only [Act.put, List.setIfInBounds_toArray, List.set_cons_zero, List.set_cons_succ]
                refine dR [20] ?_
                refine qK 20 34 Tryd.func58 #[.string p5] ?_ AllReadyL.nil
                refine (rotaref25_signed.calls 268435999 p5 y1 _ hy1).mono ?_
                rintro e W34 ⟨rfl, hb⟩
                have M9 := Aside0.mk (Mem.drawn M8.out hb)
                clear M8 hb
                refine ⟨_, rfl, M9.out.held (Cells.nil _) rfl, ?_⟩
                simp only [Act.put, List.setIfInBounds_toArray, List.set_cons_zero, List.set_cons_succ]
                refine dR [24] ?_
                refine qK 24 38 Tryd.func58 #[.string p6] ?_ AllReadyL.nil
                refine (rotaref25_signed.calls 268435999 p6 y2 _ hy2).mono ?_
                rintro e W38 ⟨rfl, hb⟩
                have M10 := Aside0.mk (Mem.drawn M9.out hb)
                clear M9 hb
                refine ⟨_, rfl, M10.out.held (Cells.nil _) rfl, ?_⟩
                simp only [Act.put, List.setIfInBounds_toArray, List.set_cons_zero, List.set_cons_succ]
                refine dR [28] ?_
                refine qK 28 42 Tryd.func58 #[.string p7] ?_ AllReadyL.nil
                refine (rotaref25_signed.calls 268435999 p7 y3 _ hy3).mono ?_
                rintro e W42 ⟨rfl, hb⟩
                have M11 := Aside0.mk (Mem.drawn M10.out hb)
                clear M10 hb
                refine ⟨_, rfl, M11.out.held (Cells.nil _) rfl, ?_⟩
                simp only [Act.put, List.setIfInBounds_toArray, List.set_cons_zero, List.set_cons_succ]
                refine dP 29 43 (.agg #[.int .u64 u, .int .i64 x1, .int .i64 x2, .int .i64 x3, .int .i64 0, .int .i64 y1, .int .i64 y2, .int .i64 y3]) ?_
                simp only [Act.put, List.setIfInBounds_toArray, List.set_cons_zero, List.set_cons_succ]
                refine dR [31] ?_
                refine qS M11 31 36 5 2 #[.int .u64 u, .int .i64 x1, .int .i64 x2, .int .i64 x3, .int .i64 0, .int .i64 y1, .int .i64 y2, .int .i64 y3] ?_ AllReadyL.nil
                clear M11
                intro w_ M12
                refine dDone ?_
                exact hK (g5) _ M12
              exact AllReadyL.nil
            refine qA M6 30 5 36 #[.int .u64 0, .int .i64 0, .int .i64 0, .int .i64 0, .int .i64 0, .int .i64 0, .int .i64 0, .int .i64 0] ?_ ?_
            · clear M6
              intro g5 w5 M7
              simp only [Act.put, List.setIfInBounds_toArray, List.set_cons_zero, List.set_cons_succ]
              refine dR [15] ?_
              refine qK 15 29 Tryd.func58 #[.string p3] ?_ AllReadyL.nil
              refine (rotaref25_signed.calls 268435999 p3 x3 _ hx3).mono ?_
              rintro e W29 ⟨rfl, hb⟩
              have M8 := Aside0.mk (Mem.drawn M7.out hb)
              clear M7 hb
              refine ⟨_, rfl, M8.out.held (Cells.nil _) rfl, ?_⟩
              simp only [Act.put, List.setIfInBounds_toArray, List.set_cons_zero, List.set_cons_succ]
              refine dP 16 30 (.agg #[.int .i64 x2, .int .i64 x3]) ?_
              simp only [Act.put, List.setIfInBounds_toArray, List.set_cons_zero, List.set_cons_succ]
              refine dR [20] ?_
              refine qK 20 34 Tryd.func58 #[.string p5] ?_ AllReadyL.nil
              refine (rotaref25_signed.calls 268435999 p5 y1 _ hy1).mono ?_
              rintro e W34 ⟨rfl, hb⟩
              have M9 := Aside0.mk (Mem.drawn M8.out hb)
              clear M8 hb
              refine ⟨_, rfl, M9.out.held (Cells.nil _) rfl, ?_⟩
              simp only [Act.put, List.setIfInBounds_toArray, List.set_cons_zero, List.set_cons_succ]
              refine dR [24] ?_
              refine qK 24 38 Tryd.func58 #[.string p6] ?_ AllReadyL.nil
              refine (rotaref25_signed.calls 268435999 p6 y2 _ hy2).mono ?_
              rintro e W38 ⟨rfl, hb⟩
              have M10 := Aside0.mk (Mem.drawn M9.out hb)
              clear M9 hb
              refine ⟨_, rfl, M10.out.held (Cells.nil _) rfl, ?_⟩
              simp only [Act.put, List.setIfInBounds_toArray, List.set_cons_zero, List.set_cons_succ]
              refine dR [28] ?_
              refine qK 28 42 Tryd.func58 #[.string p7] ?_ AllReadyL.nil
              refine (rotaref25_signed.calls 268435999 p7 y3 _ hy3).mono ?_
              rintro e W42 ⟨rfl, hb⟩
              have M11 := Aside0.mk (Mem.drawn M10.out hb)
              clear M10 hb
              refine ⟨_, rfl, M11.out.held (Cells.nil _) rfl, ?_⟩
              simp only [Act.put, List.setIfInBounds_toArray, List.set_cons_zero, List.set_cons_succ]
              refine dP 29 43 (.agg #[.int .u64 u, .int .i64 x1, .int .i64 x2, .int .i64 x3, .int .i64 0, .int .i64 y1, .int .i64 y2, .int .i64 y3]) ?_
              simp only [Act.put, List.setIfInBounds_toArray, List.set_cons_zero, List.set_cons_succ]
              refine dR [31] ?_
              refine qS M11 31 36 5 2 #[.int .u64 u, .int .i64 x1, .int .i64 x2, .int .i64 x3, .int .i64 0, .int .i64 y1, .int .i64 y2, .int .i64 y3] ?_ AllReadyL.nil
              clear M11
              intro w_ M12
              refine dDone ?_
              exact hK (g5) _ M12
            exact AllReadyL.nil
          refine qA M5 30 5 36 #[.int .u64 0, .int .i64 0, .int .i64 0, .int .i64 0, .int .i64 0, .int .i64 0, .int .i64 0, .int .i64 0] ?_ ?_
          · clear M5
            intro g5 w5 M6
            simp only [Act.put, List.setIfInBounds_toArray, List.set_cons_zero, List.set_cons_succ]
            refine dR [11] ?_
            refine qK 11 25 Tryd.func58 #[.string p2] ?_ AllReadyL.nil
            refine (rotaref25_signed.calls 268435999 p2 x2 _ hx2).mono ?_
            rintro e W25 ⟨rfl, hb⟩
            have M7 := Aside0.mk (Mem.drawn M6.out hb)
            clear M6 hb
            refine ⟨_, rfl, M7.out.held (Cells.nil _) rfl, ?_⟩
            simp only [Act.put, List.setIfInBounds_toArray, List.set_cons_zero, List.set_cons_succ]
            refine dR [15] ?_
            refine qK 15 29 Tryd.func58 #[.string p3] ?_ AllReadyL.nil
            refine (rotaref25_signed.calls 268435999 p3 x3 _ hx3).mono ?_
            rintro e W29 ⟨rfl, hb⟩
            have M8 := Aside0.mk (Mem.drawn M7.out hb)
            clear M7 hb
            refine ⟨_, rfl, M8.out.held (Cells.nil _) rfl, ?_⟩
            simp only [Act.put, List.setIfInBounds_toArray, List.set_cons_zero, List.set_cons_succ]
            refine dP 16 30 (.agg #[.int .i64 x2, .int .i64 x3]) ?_
            simp only [Act.put, List.setIfInBounds_toArray, List.set_cons_zero, List.set_cons_succ]
            refine dR [20] ?_
            refine qK 20 34 Tryd.func58 #[.string p5] ?_ AllReadyL.nil
            refine (rotaref25_signed.calls 268435999 p5 y1 _ hy1).mono ?_
            rintro e W34 ⟨rfl, hb⟩
            have M9 := Aside0.mk (Mem.drawn M8.out hb)
            clear M8 hb
            refine ⟨_, rfl, M9.out.held (Cells.nil _) rfl, ?_⟩
            simp only [Act.put, List.setIfInBounds_toArray, List.set_cons_zero, List.set_cons_succ]
            refine dR [24] ?_
            refine qK 24 38 Tryd.func58 #[.string p6] ?_ AllReadyL.nil
            refine (rotaref25_signed.calls 268435999 p6 y2 _ hy2).mono ?_
            rintro e W38 ⟨rfl, hb⟩
            have M10 := Aside0.mk (Mem.drawn M9.out hb)
            clear M9 hb
            refine ⟨_, rfl, M10.out.held (Cells.nil _) rfl, ?_⟩
            simp only [Act.put, List.setIfInBounds_toArray, List.set_cons_zero, List.set_cons_succ]
            refine dR [28] ?_
            refine qK 28 42 Tryd.func58 #[.string p7] ?_ AllReadyL.nil
            refine (rotaref25_signed.calls 268435999 p7 y3 _ hy3).mono ?_
            rintro e W42 ⟨rfl, hb⟩
            have M11 := Aside0.mk (Mem.drawn M10.out hb)
            clear M10 hb
            refine ⟨_, rfl, M11.out.held (Cells.nil _) rfl, ?_⟩
            simp only [Act.put, List.setIfInBounds_toArray, List.set_cons_zero, List.set_cons_succ]
            refine dP 29 43 (.agg #[.int .u64 u, .int .i64 x1, .int .i64 x2, .int .i64 x3, .int .i64 0, .int .i64 y1, .int .i64 y2, .int .i64 y3]) ?_
            simp only [Act.put, List.setIfInBounds_toArray, List.set_cons_zero, List.set_cons_succ]
            refine dR [31] ?_
            refine qS M11 31 36 5 2 #[.int .u64 u, .int .i64 x1, .int .i64 x2, .int .i64 x3, .int .i64 0, .int .i64 y1, .int .i64 y2, .int .i64 y3] ?_ AllReadyL.nil
            clear M11
            intro w_ M12
            refine dDone ?_
            exact hK (g5) _ M12
          exact AllReadyL.nil
        refine qA M4 30 5 36 #[.int .u64 0, .int .i64 0, .int .i64 0, .int .i64 0, .int .i64 0, .int .i64 0, .int .i64 0, .int .i64 0] ?_ ?_
        · clear M4
          intro g5 w5 M5
          simp only [Act.put, List.setIfInBounds_toArray, List.set_cons_zero, List.set_cons_succ]
          refine dR [7] ?_
          refine qK 7 21 Tryd.func58 #[.string p1] ?_ AllReadyL.nil
          refine (rotaref25_signed.calls 268435999 p1 x1 _ hx1).mono ?_
          rintro e W21 ⟨rfl, hb⟩
          have M6 := Aside0.mk (Mem.drawn M5.out hb)
          clear M5 hb
          refine ⟨_, rfl, M6.out.held (Cells.nil _) rfl, ?_⟩
          simp only [Act.put, List.setIfInBounds_toArray, List.set_cons_zero, List.set_cons_succ]
          refine dR [11] ?_
          refine qK 11 25 Tryd.func58 #[.string p2] ?_ AllReadyL.nil
          refine (rotaref25_signed.calls 268435999 p2 x2 _ hx2).mono ?_
          rintro e W25 ⟨rfl, hb⟩
          have M7 := Aside0.mk (Mem.drawn M6.out hb)
          clear M6 hb
          refine ⟨_, rfl, M7.out.held (Cells.nil _) rfl, ?_⟩
          simp only [Act.put, List.setIfInBounds_toArray, List.set_cons_zero, List.set_cons_succ]
          refine dR [15] ?_
          refine qK 15 29 Tryd.func58 #[.string p3] ?_ AllReadyL.nil
          refine (rotaref25_signed.calls 268435999 p3 x3 _ hx3).mono ?_
          rintro e W29 ⟨rfl, hb⟩
          have M8 := Aside0.mk (Mem.drawn M7.out hb)
          clear M7 hb
          refine ⟨_, rfl, M8.out.held (Cells.nil _) rfl, ?_⟩
          simp only [Act.put, List.setIfInBounds_toArray, List.set_cons_zero, List.set_cons_succ]
          refine dP 16 30 (.agg #[.int .i64 x2, .int .i64 x3]) ?_
          simp only [Act.put, List.setIfInBounds_toArray, List.set_cons_zero, List.set_cons_succ]
          refine dR [20] ?_
          refine qK 20 34 Tryd.func58 #[.string p5] ?_ AllReadyL.nil
          refine (rotaref25_signed.calls 268435999 p5 y1 _ hy1).mono ?_
          rintro e W34 ⟨rfl, hb⟩
          have M9 := Aside0.mk (Mem.drawn M8.out hb)
          clear M8 hb
          refine ⟨_, rfl, M9.out.held (Cells.nil _) rfl, ?_⟩
          simp only [Act.put, List.setIfInBounds_toArray, List.set_cons_zero, List.set_cons_succ]
          refine dR [24] ?_
          refine qK 24 38 Tryd.func58 #[.string p6] ?_ AllReadyL.nil
          refine (rotaref25_signed.calls 268435999 p6 y2 _ hy2).mono ?_
          rintro e W38 ⟨rfl, hb⟩
          have M10 := Aside0.mk (Mem.drawn M9.out hb)
          clear M9 hb
          refine ⟨_, rfl, M10.out.held (Cells.nil _) rfl, ?_⟩
          simp only [Act.put, List.setIfInBounds_toArray, List.set_cons_zero, List.set_cons_succ]
          refine dR [28] ?_
          refine qK 28 42 Tryd.func58 #[.string p7] ?_ AllReadyL.nil
          refine (rotaref25_signed.calls 268435999 p7 y3 _ hy3).mono ?_
          rintro e W42 ⟨rfl, hb⟩
          have M11 := Aside0.mk (Mem.drawn M10.out hb)
          clear M10 hb
          refine ⟨_, rfl, M11.out.held (Cells.nil _) rfl, ?_⟩
          simp only [Act.put, List.setIfInBounds_toArray, List.set_cons_zero, List.set_cons_succ]
          refine dP 29 43 (.agg #[.int .u64 u, .int .i64 x1, .int .i64 x2, .int .i64 x3, .int .i64 0, .int .i64 y1, .int .i64 y2, .int .i64 y3]) ?_
          simp only [Act.put, List.setIfInBounds_toArray, List.set_cons_zero, List.set_cons_succ]
          refine dR [31] ?_
          refine qS M11 31 36 5 2 #[.int .u64 u, .int .i64 x1, .int .i64 x2, .int .i64 x3, .int .i64 0, .int .i64 y1, .int .i64 y2, .int .i64 y3] ?_ AllReadyL.nil
          clear M11
          intro w_ M12
          refine dDone ?_
          exact hK (g5) _ M12
        exact AllReadyL.nil
      refine qA M3 30 5 36 #[.int .u64 0, .int .i64 0, .int .i64 0, .int .i64 0, .int .i64 0, .int .i64 0, .int .i64 0, .int .i64 0] ?_ ?_
      · clear M3
        intro g5 w5 M4
        simp only [Act.put, List.setIfInBounds_toArray, List.set_cons_zero, List.set_cons_succ]
        refine dR [3] ?_
        refine qK 3 17 Tryd.func57 #[.string p0] ?_ AllReadyL.nil
        refine (rotaref25_digits.calls 268435999 p0 u _ hu).mono ?_
        rintro e W17 ⟨rfl, hb⟩
        have M5 := Aside0.mk (Mem.drawn M4.out hb)
        clear M4 hb
        refine ⟨_, rfl, M5.out.held (Cells.nil _) rfl, ?_⟩
        simp only [Act.put, List.setIfInBounds_toArray, List.set_cons_zero, List.set_cons_succ]
        refine dR [7] ?_
        refine qK 7 21 Tryd.func58 #[.string p1] ?_ AllReadyL.nil
        refine (rotaref25_signed.calls 268435999 p1 x1 _ hx1).mono ?_
        rintro e W21 ⟨rfl, hb⟩
        have M6 := Aside0.mk (Mem.drawn M5.out hb)
        clear M5 hb
        refine ⟨_, rfl, M6.out.held (Cells.nil _) rfl, ?_⟩
        simp only [Act.put, List.setIfInBounds_toArray, List.set_cons_zero, List.set_cons_succ]
        refine dR [11] ?_
        refine qK 11 25 Tryd.func58 #[.string p2] ?_ AllReadyL.nil
        refine (rotaref25_signed.calls 268435999 p2 x2 _ hx2).mono ?_
        rintro e W25 ⟨rfl, hb⟩
        have M7 := Aside0.mk (Mem.drawn M6.out hb)
        clear M6 hb
        refine ⟨_, rfl, M7.out.held (Cells.nil _) rfl, ?_⟩
        simp only [Act.put, List.setIfInBounds_toArray, List.set_cons_zero, List.set_cons_succ]
        refine dR [15] ?_
        refine qK 15 29 Tryd.func58 #[.string p3] ?_ AllReadyL.nil
        refine (rotaref25_signed.calls 268435999 p3 x3 _ hx3).mono ?_
        rintro e W29 ⟨rfl, hb⟩
        have M8 := Aside0.mk (Mem.drawn M7.out hb)
        clear M7 hb
        refine ⟨_, rfl, M8.out.held (Cells.nil _) rfl, ?_⟩
        simp only [Act.put, List.setIfInBounds_toArray, List.set_cons_zero, List.set_cons_succ]
        refine dP 16 30 (.agg #[.int .i64 x2, .int .i64 x3]) ?_
        simp only [Act.put, List.setIfInBounds_toArray, List.set_cons_zero, List.set_cons_succ]
        refine dR [20] ?_
        refine qK 20 34 Tryd.func58 #[.string p5] ?_ AllReadyL.nil
        refine (rotaref25_signed.calls 268435999 p5 y1 _ hy1).mono ?_
        rintro e W34 ⟨rfl, hb⟩
        have M9 := Aside0.mk (Mem.drawn M8.out hb)
        clear M8 hb
        refine ⟨_, rfl, M9.out.held (Cells.nil _) rfl, ?_⟩
        simp only [Act.put, List.setIfInBounds_toArray, List.set_cons_zero, List.set_cons_succ]
        refine dR [24] ?_
        refine qK 24 38 Tryd.func58 #[.string p6] ?_ AllReadyL.nil
        refine (rotaref25_signed.calls 268435999 p6 y2 _ hy2).mono ?_
        rintro e W38 ⟨rfl, hb⟩
        have M10 := Aside0.mk (Mem.drawn M9.out hb)
        clear M9 hb
        refine ⟨_, rfl, M10.out.held (Cells.nil _) rfl, ?_⟩
        simp only [Act.put, List.setIfInBounds_toArray, List.set_cons_zero, List.set_cons_succ]
        refine dR [28] ?_
        refine qK 28 42 Tryd.func58 #[.string p7] ?_ AllReadyL.nil
        refine (rotaref25_signed.calls 268435999 p7 y3 _ hy3).mono ?_
        rintro e W42 ⟨rfl, hb⟩
        have M11 := Aside0.mk (Mem.drawn M10.out hb)
        clear M10 hb
        refine ⟨_, rfl, M11.out.held (Cells.nil _) rfl, ?_⟩
        simp only [Act.put, List.setIfInBounds_toArray, List.set_cons_zero, List.set_cons_succ]
        refine dP 29 43 (.agg #[.int .u64 u, .int .i64 x1, .int .i64 x2, .int .i64 x3, .int .i64 0, .int .i64 y1, .int .i64 y2, .int .i64 y3]) ?_
        simp only [Act.put, List.setIfInBounds_toArray, List.set_cons_zero, List.set_cons_succ]
        refine dR [31] ?_
        refine qS M11 31 36 5 2 #[.int .u64 u, .int .i64 x1, .int .i64 x2, .int .i64 x3, .int .i64 0, .int .i64 y1, .int .i64 y2, .int .i64 y3] ?_ AllReadyL.nil
        clear M11
        intro w_ M12
        refine dDone ?_
        exact hK (g5) _ M12
      exact AllReadyL.nil
    rintro g5 W_4 M13
    try dsimp only at M13 ⊢
    simp only [putAll, Act.put, List.setIfInBounds_toArray, List.set_cons_zero, List.set_cons_succ]
    go_wp2_with fail
    refine (names_mem M13 (by decide)).mono ?_
    rintro e W44 ⟨g44, nms, c44, rfl, MQ, hn⟩
    have hnm := Lib.hid hn
    clear hn
    have M14 := MQ
    clear MQ M13
    go_wp2_with fail
    go_loopw [7] (fun v7 wr => ∃ i : Nat, i ≤ 36 ∧ v7 = .int .i64 i ∧ Mem [5] w wr [(g2, #[.int .u64 0, .int .i64 0, .int .i64 0, .int .i64 0, .int .i64 0, .int .i64 0, .int .i64 0, .int .i64 0], 36), (g9, cur, 9), (g5, #[.int .u64 u, .int .i64 x1, .int .i64 x2, .int .i64 x3, .int .i64 (kindOf p4 i), .int .i64 y1, .int .i64 y2, .int .i64 y3], 36), (g44, nms, 9)] []) (fun v7 _ => 36 - (intOf v7).toNat)
    case atStart => exact ⟨0, by omega, rfl, M14.out⟩
    obtain ⟨i, hi, rfl, M⟩ := hrel
    have ML := Aside0.mk M
    clear M M14
    have M15 := ML
    clear ML
    by_cases bK : i < 36
    · have q2 : (i : Int) < 36 := by omega
      have hni := hnm.out i bK
      go_wp2_with fail
      by_cases bE : Laid.nameAt i = p4
      · have eK : kindOf p4 (i + 1) = ((i + 1 : Nat) : Int) := by rw [kindOf, if_pos bE]
        have e1 : ((Laid.nameAt i).toList == p4.toList) = true := by rw [bE]; exact beq_self_eq_true _
        refine dStart [] [] M15 (fun w' M => ?_)
        clear M15
        have M16 := M
        clear M
        refine dP 0 51 (.slice (some ⟨g44, 0, none⟩) 36 c44) ?_
        simp only [Act.put, List.setIfInBounds_toArray, List.set_cons_zero, List.set_cons_succ]
        refine dP 1 52 (.int .i64 (i : Int)) ?_
        simp only [Act.put, List.setIfInBounds_toArray, List.set_cons_zero, List.set_cons_succ]
        refine dP 2 53 (.pointer (some ⟨g44, i, none⟩)) ?_
        simp only [Act.put, List.setIfInBounds_toArray, List.set_cons_zero, List.set_cons_succ]
        refine dC M16 3 54 3 i (.string (Laid.nameAt i)) (hv := hni) ?_
        simp only [Act.put, List.setIfInBounds_toArray, List.set_cons_zero, List.set_cons_succ]
        refine dP 4 55 (.slice (some ⟨g9, 0, none⟩) 8 c9) ?_
        simp only [Act.put, List.setIfInBounds_toArray, List.set_cons_zero, List.set_cons_succ]
        refine dP 5 56 (.pointer (some ⟨g9, 4, none⟩)) ?_
        simp only [Act.put, List.setIfInBounds_toArray, List.set_cons_zero, List.set_cons_succ]
        refine dC M16 6 57 1 4 (.string p4) (hv := hc4) ?_
        simp only [Act.put, List.setIfInBounds_toArray, List.set_cons_zero, List.set_cons_succ]
        refine dP 7 58 (.bool true) ?_
        simp only [Act.put, List.setIfInBounds_toArray, List.set_cons_zero, List.set_cons_succ]
        refine dDone ?_
        go_wp2_with (first
            | (refine eS M16 3 61 2 4 (.int .i64 ((i : Int) + 1)) #[.int .u64 u, .int .i64 x1, .int .i64 x2, .int .i64 x3, .int .i64 ((i : Int) + 1), .int .i64 y1, .int .i64 y2, .int .i64 y3] ?_; clear M16; intro w_ M17))
        go_roundw
        case rel => exact ⟨i + 1, by omega, by go_num, by first | (rw [eK]; exact M17.out) | (rw [eK, Int.natCast_add]; exact M17.out)⟩
        case measure => simp [intOf]; omega
      · have eK : kindOf p4 (i + 1) = kindOf p4 i := by rw [kindOf, if_neg bE]
        have e1 : ((Laid.nameAt i).toList == p4.toList) = false := str_ne bE
        refine dStart [] [] M15 (fun w' M => ?_)
        clear M15
        have M16 := M
        clear M
        refine dP 0 51 (.slice (some ⟨g44, 0, none⟩) 36 c44) ?_
        simp only [Act.put, List.setIfInBounds_toArray, List.set_cons_zero, List.set_cons_succ]
        refine dP 1 52 (.int .i64 (i : Int)) ?_
        simp only [Act.put, List.setIfInBounds_toArray, List.set_cons_zero, List.set_cons_succ]
        refine dP 2 53 (.pointer (some ⟨g44, i, none⟩)) ?_
        simp only [Act.put, List.setIfInBounds_toArray, List.set_cons_zero, List.set_cons_succ]
        refine dC M16 3 54 3 i (.string (Laid.nameAt i)) (hv := hni) ?_
        simp only [Act.put, List.setIfInBounds_toArray, List.set_cons_zero, List.set_cons_succ]
        refine dP 4 55 (.slice (some ⟨g9, 0, none⟩) 8 c9) ?_
        simp only [Act.put, List.setIfInBounds_toArray, List.set_cons_zero, List.set_cons_succ]
        refine dP 5 56 (.pointer (some ⟨g9, 4, none⟩)) ?_
        simp only [Act.put, List.setIfInBounds_toArray, List.set_cons_zero, List.set_cons_succ]
        refine dC M16 6 57 1 4 (.string p4) (hv := hc4) ?_
        simp only [Act.put, List.setIfInBounds_toArray, List.set_cons_zero, List.set_cons_succ]
        refine dP 7 58 (.bool false) ?_
        simp only [Act.put, List.setIfInBounds_toArray, List.set_cons_zero, List.set_cons_succ]
        refine dDone ?_
        go_wp2_with fail
        go_roundw
        case rel => exact ⟨i + 1, by omega, by go_num, by first | (rw [eK]; exact M16.out) | (rw [eK, Int.natCast_add]; exact M16.out)⟩
        case measure => simp [intOf]; omega
    · have q2 : ¬ (i : Int) < 36 := by omega
      obtain rfl : i = 36 := by omega
      go_wp2_with fail
      have HIN : Q.EvIn (⟨u, x1, ⟨x2, x3⟩, kindOf p4 36, y1, y2, y3⟩ : S36) := by
        have hk := kind_in p4 36
        dsimp only [Q.EvIn, I64] at *
        omega
      have MP := Aside0.mk (Mem.perm M15.out (perm4 _ _ _ _))
      clear M15
      obtain ⟨tm, htm⟩ := Q.may_some u x1 x2 x3 (kindOf p4 36) y1 y2 y3
      have htm2 := (Q.may_eq u x1 x2 x3 (kindOf p4 36) y1 y2 y3).symm.trans htm
      cases tm
      · refine dStart2 [9] [(g5, #[.int .u64 u, .int .i64 x1, .int .i64 x2, .int .i64 x3, .int .i64 (kindOf p4 36), .int .i64 y1, .int .i64 y2, .int .i64 y3], 36)] MP (fun w' M => ?_)
        have M0 := M
        clear M MP
        refine dL M0 0 62 0 hu36 ?_
        simp only [Act.put, List.setIfInBounds_toArray, List.set_cons_zero, List.set_cons_succ]
        refine dL M0 1 63 0 hu36 ?_
        simp only [Act.put, List.setIfInBounds_toArray, List.set_cons_zero, List.set_cons_succ]
        refine dR [2] ?_
        refine qK 2 64 Tryd.func34 #[.agg #[.int .u64 u, .int .i64 x1, .int .i64 x2, .int .i64 x3, .int .i64 (kindOf p4 36), .int .i64 y1, .int .i64 y2, .int .i64 y3]] ?_ AllReadyL.nil
        refine (rotaref25_may.calls _ _ _ _ _ _ _ _ _ _ htm2).mono ?_
        rintro e W64 ⟨rfl, hb⟩
        have M1 := Aside0.mk (Mem.call M0.out hb)
        clear M0 hb
        refine ⟨_, rfl, M1.out.held (Cells.nil _) rfl, ?_⟩
        simp only [Act.put, List.setIfInBounds_toArray, List.set_cons_zero, List.set_cons_succ]
        refine dP 3 65 (.bool false) ?_
        simp only [Act.put, List.setIfInBounds_toArray, List.set_cons_zero, List.set_cons_succ]
        refine dN 4 66 ?_
        simp only [Act.put, List.setIfInBounds_toArray, List.set_cons_zero, List.set_cons_succ]
        refine dN 5 67 ?_
        simp only [Act.put, List.setIfInBounds_toArray, List.set_cons_zero, List.set_cons_succ]
        refine dN 6 68 ?_
        simp only [Act.put, List.setIfInBounds_toArray, List.set_cons_zero, List.set_cons_succ]
        refine dN 7 69 ?_
        simp only [Act.put, List.setIfInBounds_toArray, List.set_cons_zero, List.set_cons_succ]
        refine dP 8 70 (.bool false) ?_
        simp only [Act.put, List.setIfInBounds_toArray, List.set_cons_zero, List.set_cons_succ]
        refine dR [9] ?_
        refine qS M1 9 36 2 3 #[.int .u64 u, .int .i64 x1, .int .i64 x2, .int .i64 x3, .int .i64 (kindOf p4 36), .int .i64 y1, .int .i64 y2, .int .i64 y3] ?_ AllReadyL.nil
        clear M1
        intro w_ M4
        refine dP 10 3 (.bool false) ?_
        simp only [Act.put, List.setIfInBounds_toArray, List.set_cons_zero, List.set_cons_succ]
        refine dDone ?_
        go_wp2_with fail
        exact bodyPost_ret (results_ct rfl _ _ g2 36 _ (0, 0) _ rfl (M4.out.at 3 rfl) Tryd.underlying36 rfl (by kernel_rfl)) rfl ⟨(⟨u, x1, ⟨x2, x3⟩, kindOf p4 36, y1, y2, y3⟩ : S36), false, rfl, ⟨HIN, fun h => by simp at h, fun y hy => by have e := SAME.out y hy; subst e; exact absurd (htm.symm.trans hy.2.1) (by simp)⟩, M4.out.below⟩
      · have HOK := HIN.ok (Q.may_kind htm rfl)
        by_cases bS : s = Q.sB (lineE (⟨u, x1, ⟨x2, x3⟩, kindOf p4 36, y1, y2, y3⟩ : S36))
        · have eS : ((Q.sB (lineE (⟨u, x1, ⟨x2, x3⟩, kindOf p4 36, y1, y2, y3⟩ : S36))).toList == s.toList) = true := by rw [← bS]; exact beq_self_eq_true _
          refine dStart2 [9] [(g5, #[.int .u64 u, .int .i64 x1, .int .i64 x2, .int .i64 x3, .int .i64 (kindOf p4 36), .int .i64 y1, .int .i64 y2, .int .i64 y3], 36)] MP (fun w' M => ?_)
          have M0 := M
          clear M MP
          refine dL M0 0 62 0 hu36 ?_
          simp only [Act.put, List.setIfInBounds_toArray, List.set_cons_zero, List.set_cons_succ]
          refine dL M0 1 63 0 hu36 ?_
          simp only [Act.put, List.setIfInBounds_toArray, List.set_cons_zero, List.set_cons_succ]
          refine dR [2] ?_
          refine qK 2 64 Tryd.func34 #[.agg #[.int .u64 u, .int .i64 x1, .int .i64 x2, .int .i64 x3, .int .i64 (kindOf p4 36), .int .i64 y1, .int .i64 y2, .int .i64 y3]] ?_ AllReadyL.nil
          refine (rotaref25_may.calls _ _ _ _ _ _ _ _ _ _ htm2).mono ?_
          rintro e W64 ⟨rfl, hb⟩
          have M1 := Aside0.mk (Mem.call M0.out hb)
          clear M0 hb
          refine ⟨_, rfl, M1.out.held (Cells.nil _) rfl, ?_⟩
          simp only [Act.put, List.setIfInBounds_toArray, List.set_cons_zero, List.set_cons_succ]
          refine dP 3 65 (.bool true) ?_
          simp only [Act.put, List.setIfInBounds_toArray, List.set_cons_zero, List.set_cons_succ]
          refine dL M1 4 66 0 hu36 ?_
          simp only [Act.put, List.setIfInBounds_toArray, List.set_cons_zero, List.set_cons_succ]
          refine dP 6 68 (.string s) ?_
          simp only [Act.put, List.setIfInBounds_toArray, List.set_cons_zero, List.set_cons_succ]
          refine dR [5] ?_
          refine qK 5 67 Tryd.func41 #[.agg #[.int .u64 u, .int .i64 x1, .int .i64 x2, .int .i64 x3, .int .i64 (kindOf p4 36), .int .i64 y1, .int .i64 y2, .int .i64 y3]] ?_ AllReadyL.nil
          refine (rotaref25_Line.calls 20 _ _ _ _ _ _ _ _ _ _ (Q.line25 20 (by decide) (⟨u, x1, ⟨x2, x3⟩, kindOf p4 36, y1, y2, y3⟩ : S36) HOK)).mono ?_
          rintro e W67 ⟨rfl, hb⟩
          have M3 := Aside0.mk (Mem.call M1.out hb)
          clear M1 hb
          refine ⟨_, rfl, M3.out.held (Cells.nil _) rfl, ?_⟩
          simp only [Act.put, List.setIfInBounds_toArray, List.set_cons_zero, List.set_cons_succ]
          refine dP 7 69 (.bool true) ?_
          simp only [Act.put, List.setIfInBounds_toArray, List.set_cons_zero, List.set_cons_succ]
          refine dP 8 70 (.bool true) ?_
          simp only [Act.put, List.setIfInBounds_toArray, List.set_cons_zero, List.set_cons_succ]
          refine dR [9] ?_
          refine qS M3 9 36 2 3 #[.int .u64 u, .int .i64 x1, .int .i64 x2, .int .i64 x3, .int .i64 (kindOf p4 36), .int .i64 y1, .int .i64 y2, .int .i64 y3] ?_ AllReadyL.nil
          clear M3
          intro w_ M4
          refine dP 10 3 (.bool true) ?_
          simp only [Act.put, List.setIfInBounds_toArray, List.set_cons_zero, List.set_cons_succ]
          refine dDone ?_
          go_wp2_with fail
          exact bodyPost_ret (results_ct rfl _ _ g2 36 _ (0, 0) _ rfl (M4.out.at 3 rfl) Tryd.underlying36 rfl (by kernel_rfl)) rfl ⟨(⟨u, x1, ⟨x2, x3⟩, kindOf p4 36, y1, y2, y3⟩ : S36), true, rfl, ⟨HIN, fun _ => ⟨HOK, htm, bS⟩, fun y hy => ⟨rfl, SAME.out y hy⟩⟩, M4.out.below⟩
        · have eS : (lineE (⟨u, x1, ⟨x2, x3⟩, kindOf p4 36, y1, y2, y3⟩ : S36) = s.toList) = False := eq_false (fun h => bS (by rw [ByteArray.toList_eq] at h; rw [h]))
          have eS2 : (({ data := (lineE (⟨u, x1, ⟨x2, x3⟩, kindOf p4 36, y1, y2, y3⟩ : S36)).toArray } : ByteArray).toList == s.toList) = false := str_ne (fun h => bS h.symm)
          refine dStart2 [9] [(g5, #[.int .u64 u, .int .i64 x1, .int .i64 x2, .int .i64 x3, .int .i64 (kindOf p4 36), .int .i64 y1, .int .i64 y2, .int .i64 y3], 36)] MP (fun w' M => ?_)
          have M0 := M
          clear M MP
          refine dL M0 0 62 0 hu36 ?_
          simp only [Act.put, List.setIfInBounds_toArray, List.set_cons_zero, List.set_cons_succ]
          refine dL M0 1 63 0 hu36 ?_
          simp only [Act.put, List.setIfInBounds_toArray, List.set_cons_zero, List.set_cons_succ]
          refine dR [2] ?_
          refine qK 2 64 Tryd.func34 #[.agg #[.int .u64 u, .int .i64 x1, .int .i64 x2, .int .i64 x3, .int .i64 (kindOf p4 36), .int .i64 y1, .int .i64 y2, .int .i64 y3]] ?_ AllReadyL.nil
          refine (rotaref25_may.calls _ _ _ _ _ _ _ _ _ _ htm2).mono ?_
          rintro e W64 ⟨rfl, hb⟩
          have M1 := Aside0.mk (Mem.call M0.out hb)
          clear M0 hb
          refine ⟨_, rfl, M1.out.held (Cells.nil _) rfl, ?_⟩
          simp only [Act.put, List.setIfInBounds_toArray, List.set_cons_zero, List.set_cons_succ]
          refine dP 3 65 (.bool true) ?_
          simp only [Act.put, List.setIfInBounds_toArray, List.set_cons_zero, List.set_cons_succ]
          refine dL M1 4 66 0 hu36 ?_
          simp only [Act.put, List.setIfInBounds_toArray, List.set_cons_zero, List.set_cons_succ]
          refine dP 6 68 (.string s) ?_
          simp only [Act.put, List.setIfInBounds_toArray, List.set_cons_zero, List.set_cons_succ]
          refine dR [5] ?_
          refine qK 5 67 Tryd.func41 #[.agg #[.int .u64 u, .int .i64 x1, .int .i64 x2, .int .i64 x3, .int .i64 (kindOf p4 36), .int .i64 y1, .int .i64 y2, .int .i64 y3]] ?_ AllReadyL.nil
          refine (rotaref25_Line.calls 20 _ _ _ _ _ _ _ _ _ _ (Q.line25 20 (by decide) (⟨u, x1, ⟨x2, x3⟩, kindOf p4 36, y1, y2, y3⟩ : S36) HOK)).mono ?_
          rintro e W67 ⟨rfl, hb⟩
          have M3 := Aside0.mk (Mem.call M1.out hb)
          clear M1 hb
          refine ⟨_, rfl, M3.out.held (Cells.nil _) rfl, ?_⟩
          simp only [Act.put, List.setIfInBounds_toArray, List.set_cons_zero, List.set_cons_succ]
          refine dP 7 69 (.bool false) ?_
          simp only [Act.put, List.setIfInBounds_toArray, List.set_cons_zero, List.set_cons_succ]
          refine dP 8 70 (.bool false) ?_
          simp only [Act.put, List.setIfInBounds_toArray, List.set_cons_zero, List.set_cons_succ]
          refine dR [9] ?_
          refine qS M3 9 36 2 3 #[.int .u64 u, .int .i64 x1, .int .i64 x2, .int .i64 x3, .int .i64 (kindOf p4 36), .int .i64 y1, .int .i64 y2, .int .i64 y3] ?_ AllReadyL.nil
          clear M3
          intro w_ M4
          refine dP 10 3 (.bool false) ?_
          simp only [Act.put, List.setIfInBounds_toArray, List.set_cons_zero, List.set_cons_succ]
          refine dDone ?_
          go_wp2_with fail
          exact bodyPost_ret (results_ct rfl _ _ g2 36 _ (0, 0) _ rfl (M4.out.at 3 rfl) Tryd.underlying36 rfl (by kernel_rfl)) rfl ⟨(⟨u, x1, ⟨x2, x3⟩, kindOf p4 36, y1, y2, y3⟩ : S36), false, rfl, ⟨HIN, fun h => by simp at h, fun y hy => by have e := SAME.out y hy; subst e; exact absurd hy.2.2 bS⟩, M4.out.below⟩
      go_wp2_with fail
  · have e0 : (((wds s).length : Int) != 8) = true := bne_iff_ne.mpr (by omega)
    go_wp2_with (first
        | (refine eR M2 36 2 0 #[.int .u64 0, .int .i64 0, .int .i64 0, .int .i64 0, .int .i64 0, .int .i64 0, .int .i64 0, .int .i64 0] ?_; clear M2; intro w_ M3))
    exact bodyPost_ret (results_ct rfl _ _ g2 36 _ (0, 0) _ rfl (M3.out.at 0 rfl) Tryd.underlying36 rfl (by kernel_rfl)) rfl ⟨(⟨0, 0, ⟨0, 0⟩, 0, 0, 0, 0⟩ : S36), false, rfl, ⟨by dsimp only [Q.EvIn, I64]; omega, fun h => by simp at h, fun y hy => absurd (valid_eight2 hy) bN⟩, M3.out.below⟩
end Go.Proofs.YtphbepddhhdhmaaDoor.Hof
end
