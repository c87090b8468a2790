import Derived.Test.YtphbepddhhdhmaaDoorMAg12
import Derived.Test.YtphbepddhhdhmaaDoorMAg1
import Derived.Test.YtphbepddhhdhmaaDoorMAg4
import Derived.Deep.QuietTactic
import Derived.BigQuiet
import Derived.Lib.Hide
import Derived.WalkKit
import Derived.Outline
import Derived.IntWalk
section
/-
  trace.read, walked.
-/
set_option linter.unusedVariables false
set_option linter.unusedSimpArgs false
namespace Go.Proofs.YtphbepddhhdhmaaDoor.Hof
open Go.RowKit Go.Shelf Go.Proofs.YtphbepddhhdhmaaDoorW.PrintWords Go.Proofs.YtphbepddhhdhmaaDoorW.PrintLast Go.Proofs.YtphbepddhhdhmaaDoorW.PrintMore GA Hctx Hof

set_option maxHeartbeats 4000000 in
set_option maxRecDepth 100000 in
theorem read_calls (s : ByteArray) (hs : s.size ≤ 268435457) (w : World) (S0 : Std w) :
    Calls Tryd.prog 43 #[.string s] w fun e w' => ∃ x ok, e = .returned (.tuple #[.agg (evC x), .bool ok]) ∧ Reads s x ok ∧ Below w.heap.size w w' := by
  have hu36 := Tryd.underlying36
  have S := Lib.hid S0
  clear S0
  have M0 := Aside0.mk (Mem.start [5] w)
  go_enter Tryd.func43, Tryd.ntmps43
  go_wp2_with (first
      | (refine eB M0 2 #[.int .u64 0, .int .i64 0, .int .i64 0, .int .i64 0, .int .i64 0, .int .i64 0, .int .i64 0, .int .i64 0] 36 ?_; clear M0; intro g2 w2 M1))
  refine (split_mem M1 S.out s 32 hs (by decide)).mono ?_
  rintro e W14 ⟨g14, rfl, MQ⟩
  have M2 := MQ
  clear MQ M1
  by_cases bN : (pcs s 32).length = 8
  · obtain ⟨p0, p1, p2, p3, p4, p5, p6, p7, hp⟩ := list8 bN
    rw [bN]
    rw [hp] at M2
    replace M2 : Aside0 (Mem [5] w W14 [(g2, #[.int .u64 0, .int .i64 0, .int .i64 0, .int .i64 0, .int .i64 0, .int .i64 0, .int .i64 0, .int .i64 0], 36), (g14, #[.string p0, .string p1, .string p2, .string p3, .string p4, .string p5, .string p6, .string p7], 9)] []) := M2
    have e0 : (((8 : Nat) : Int) != 8) = false := rfl
    go_wp2_with (first
        | (refine eB M2 5 #[.int .u64 0, .int .i64 0, .int .i64 0, .int .i64 0, .int .i64 0, .int .i64 0, .int .i64 0, .int .i64 0] 36 ?_; clear M2; intro g5 w5 M3)
        | (refine eC M3 22 1 0 (.string p0) ?_))
    by_cases bU : ∃ u, Lib.parseUintB 64 p0.data.toList = .ok u
    · obtain ⟨u, hu⟩ := bU
      have hinu := uint_in hu
      refine (uint_ok (S.out.below M3.out.below) p0 (Nat.le_trans (pcs_size (by rw [hp]; simp)) hs) u hu).mono ?_
      rintro e W23 ⟨rfl, hb⟩
      have M4 := Aside0.mk (Mem.call M3.out hb)
      clear M3 hb
      go_wp2_with (first
          | (refine eS M4 34 26 2 0 (.int .u64 (u : Int)) #[.int .u64 (u : Int), .int .i64 0, .int .i64 0, .int .i64 0, .int .i64 0, .int .i64 0, .int .i64 0, .int .i64 0] ?_; clear M4; intro w_ M5)
          | (refine eBS M5 35 3 #[.pointer (some ⟨g5, 1, none⟩), .pointer (some ⟨g5, 2, none⟩), .pointer (some ⟨g5, 3, none⟩)] 76 ?_; clear M5; intro g35 w35 M6))
      go_loopw [37] (fun v37 wr => ∃ (i x1 x2 x3 : Int), (i = 0 ∨ i = 1 ∨ i = 2 ∨ i = 3) ∧ v37 = .int .i64 i ∧ I64 x1 ∧ I64 x2 ∧ I64 x3 ∧ (0 < i → Lib.atoiAll p1.data.toList = .ok x1) ∧ (1 < i → Lib.atoiAll p2.data.toList = .ok x2) ∧ (2 < i → Lib.atoiAll p3.data.toList = .ok x3) ∧ Mem [5] w wr [(g2, #[.int .u64 0, .int .i64 0, .int .i64 0, .int .i64 0, .int .i64 0, .int .i64 0, .int .i64 0, .int .i64 0], 36), (g14, #[.string p0, .string p1, .string p2, .string p3, .string p4, .string p5, .string p6, .string p7], 9), (g5, #[.int .u64 (u : Int), .int .i64 x1, .int .i64 x2, .int .i64 x3, .int .i64 0, .int .i64 0, .int .i64 0, .int .i64 0], 36), (g35, #[.pointer (some ⟨g5, 1, none⟩), .pointer (some ⟨g5, 2, none⟩), .pointer (some ⟨g5, 3, none⟩)], 76)] []) (fun v37 _ => 3 - (intOf v37).toNat)
      case atStart => exact ⟨0, 0, 0, 0, .inl rfl, rfl, (by dsimp only [I64]; omega), (by dsimp only [I64]; omega), (by dsimp only [I64]; omega), (fun h => absurd h (by decide)), (fun h => absurd h (by decide)), (fun h => absurd h (by decide)), M6.out⟩
      obtain ⟨i, x1, x2, x3, hi, rfl, i1, i2, i3, f1, f2, f3, M⟩ := hrel
      have ML := Aside0.mk M
      clear M M6
      have M7 := ML
      clear ML
      by_cases bI0 : i = 0
      · subst bI0
        go_wp2_with (first
            | (refine eC M7 41 3 0 (.pointer (some ⟨g5, 1, none⟩)) ?_)
            | (refine eC M7 48 1 1 (.string p1) ?_))
        by_cases bA0 : ∃ v, Lib.atoiAll p1.data.toList = .ok v
        · obtain ⟨a0, ha0⟩ := bA0
          have hina0 := atoi_in ha0
          refine (atoi_ok (S.out.below M7.out.below) p1 (Nat.le_trans (pcs_size (by rw [hp]; simp)) hs) a0 ha0).mono ?_
          rintro e W49 ⟨rfl, hb⟩
          have M8 := Aside0.mk (Mem.call M7.out hb)
          clear M7 hb
          go_wp2_with (first
              | (refine eS M8 3 52 2 1 (.int .i64 a0) #[.int .u64 (u : Int), .int .i64 a0, .int .i64 x2, .int .i64 x3, .int .i64 0, .int .i64 0, .int .i64 0, .int .i64 0] ?_; clear M8; intro w_ M9))
          go_roundw
          case rel => exact ⟨1, a0, x2, x3, by decide, rfl, hina0, i2, i3, (fun _ => ha0), (fun h => absurd h (by decide)), (fun h => absurd h (by decide)), M9.out⟩
          case measure => simp [intOf]
        · refine (atoi_bad (S.out.below M7.out.below) p1 (Nat.le_trans (pcs_size (by rw [hp]; simp)) hs) bA0).mono ?_
          rintro e W49 ⟨a0, te, pe, rfl, hina0, hb⟩
          have M8 := Aside0.mk (Mem.call M7.out hb)
          clear M7 hb
          go_wp2_with (first
              | (refine eS M8 3 52 2 1 (.int .i64 a0) #[.int .u64 (u : Int), .int .i64 a0, .int .i64 x2, .int .i64 x3, .int .i64 0, .int .i64 0, .int .i64 0, .int .i64 0] ?_; clear M8; intro w_ M9)
              | (refine eL M9 55 2 hu36 ?_)
              | (refine eR M9 36 2 0 #[.int .u64 (u : Int), .int .i64 a0, .int .i64 x2, .int .i64 x3, .int .i64 0, .int .i64 0, .int .i64 0, .int .i64 0] ?_; clear M9; intro w_ M10))
          skip
          exact bodyPost_ret (results_ct rfl _ _ g2 36 _ (0, 0) _ rfl (M10.out.at 0 rfl) Tryd.underlying36 rfl (by kernel_rfl)) rfl ⟨(⟨(u : Int), a0, ⟨x2, x3⟩, 0, 0, 0, 0⟩ : S36), false, rfl, ⟨(by dsimp only [Q.EvIn, I64] at *; omega), fun h => by simp at h, fun y hy => absurd ⟨_, (valid_reads hy hp).2.1⟩ bA0⟩, M10.out.below⟩
      · by_cases bI1 : i = 1
        · subst bI1
          go_wp2_with (first
              | (refine eC M7 41 3 1 (.pointer (some ⟨g5, 2, none⟩)) ?_)
              | (refine eC M7 48 1 2 (.string p2) ?_))
          by_cases bA1 : ∃ v, Lib.atoiAll p2.data.toList = .ok v
          · obtain ⟨a1, ha1⟩ := bA1
            have hina1 := atoi_in ha1
            refine (atoi_ok (S.out.below M7.out.below) p2 (Nat.le_trans (pcs_size (by rw [hp]; simp)) hs) a1 ha1).mono ?_
            rintro e W49 ⟨rfl, hb⟩
            have M8 := Aside0.mk (Mem.call M7.out hb)
            clear M7 hb
            go_wp2_with (first
                | (refine eS M8 3 52 2 2 (.int .i64 a1) #[.int .u64 (u : Int), .int .i64 x1, .int .i64 a1, .int .i64 x3, .int .i64 0, .int .i64 0, .int .i64 0, .int .i64 0] ?_; clear M8; intro w_ M9))
            go_roundw
            case rel => exact ⟨2, x1, a1, x3, by decide, rfl, i1, hina1, i3, (fun _ => f1 (by decide)), (fun _ => ha1), (fun h => absurd h (by decide)), M9.out⟩
            case measure => simp [intOf]
          · refine (atoi_bad (S.out.below M7.out.below) p2 (Nat.le_trans (pcs_size (by rw [hp]; simp)) hs) bA1).mono ?_
            rintro e W49 ⟨a1, te, pe, rfl, hina1, hb⟩
            have M8 := Aside0.mk (Mem.call M7.out hb)
            clear M7 hb
            go_wp2_with (first
                | (refine eS M8 3 52 2 2 (.int .i64 a1) #[.int .u64 (u : Int), .int .i64 x1, .int .i64 a1, .int .i64 x3, .int .i64 0, .int .i64 0, .int .i64 0, .int .i64 0] ?_; clear M8; intro w_ M9)
                | (refine eL M9 55 2 hu36 ?_)
                | (refine eR M9 36 2 0 #[.int .u64 (u : Int), .int .i64 x1, .int .i64 a1, .int .i64 x3, .int .i64 0, .int .i64 0, .int .i64 0, .int .i64 0] ?_; clear M9; intro w_ M10))
            skip
            exact bodyPost_ret (results_ct rfl _ _ g2 36 _ (0, 0) _ rfl (M10.out.at 0 rfl) Tryd.underlying36 rfl (by kernel_rfl)) rfl ⟨(⟨(u : Int), x1, ⟨a1, x3⟩, 0, 0, 0, 0⟩ : S36), false, rfl, ⟨(by dsimp only [Q.EvIn, I64] at *; omega), fun h => by simp at h, fun y hy => absurd ⟨_, (valid_reads hy hp).2.2.1⟩ bA1⟩, M10.out.below⟩
        · by_cases bI2 : i = 2
          · subst bI2
            go_wp2_with (first
                | (refine eC M7 41 3 2 (.pointer (some ⟨g5, 3, none⟩)) ?_)
                | (refine eC M7 48 1 3 (.string p3) ?_))
            by_cases bA2 : ∃ v, Lib.atoiAll p3.data.toList = .ok v
            · obtain ⟨a2, ha2⟩ := bA2
              have hina2 := atoi_in ha2
              refine (atoi_ok (S.out.below M7.out.below) p3 (Nat.le_trans (pcs_size (by rw [hp]; simp)) hs) a2 ha2).mono ?_
              rintro e W49 ⟨rfl, hb⟩
              have M8 := Aside0.mk (Mem.call M7.out hb)
              clear M7 hb
              go_wp2_with (first
                  | (refine eS M8 3 52 2 3 (.int .i64 a2) #[.int .u64 (u : Int), .int .i64 x1, .int .i64 x2, .int .i64 a2, .int .i64 0, .int .i64 0, .int .i64 0, .int .i64 0] ?_; clear M8; intro w_ M9))
              go_roundw
              case rel => exact ⟨3, x1, x2, a2, by decide, rfl, i1, i2, hina2, (fun _ => f1 (by decide)), (fun _ => f2 (by decide)), (fun _ => ha2), M9.out⟩
              case measure => simp [intOf]
            · refine (atoi_bad (S.out.below M7.out.below) p3 (Nat.le_trans (pcs_size (by rw [hp]; simp)) hs) bA2).mono ?_
              rintro e W49 ⟨a2, te, pe, rfl, hina2, hb⟩
              have M8 := Aside0.mk (Mem.call M7.out hb)
              clear M7 hb
              go_wp2_with (first
                  | (refine eS M8 3 52 2 3 (.int .i64 a2) #[.int .u64 (u : Int), .int .i64 x1, .int .i64 x2, .int .i64 a2, .int .i64 0, .int .i64 0, .int .i64 0, .int .i64 0] ?_; clear M8; intro w_ M9)
                  | (refine eL M9 55 2 hu36 ?_)
                  | (refine eR M9 36 2 0 #[.int .u64 (u : Int), .int .i64 x1, .int .i64 x2, .int .i64 a2, .int .i64 0, .int .i64 0, .int .i64 0, .int .i64 0] ?_; clear M9; intro w_ M10))
              skip
              exact bodyPost_ret (results_ct rfl _ _ g2 36 _ (0, 0) _ rfl (M10.out.at 0 rfl) Tryd.underlying36 rfl (by kernel_rfl)) rfl ⟨(⟨(u : Int), x1, ⟨x2, a2⟩, 0, 0, 0, 0⟩ : S36), false, rfl, ⟨(by dsimp only [Q.EvIn, I64] at *; omega), fun h => by simp at h, fun y hy => absurd ⟨_, (valid_reads hy hp).2.2.2.1⟩ bA2⟩, M10.out.below⟩
          · obtain rfl : i = 3 := by omega
            go_wp2_with (first
                | (refine wpList_load_mid rfl 50 (.global 0) rfl 0 0 rfl namesV _ (names_range (S.out.below M7.out.below).names) Tryd.underlying50 rfl (by kernel_rfl) ?_))
            go_loopw [58] (fun v58 wr => ∃ i : Nat, i ≤ 36 ∧ v58 = .int .i64 i ∧ Mem [5] w wr [(g2, #[.int .u64 0, .int .i64 0, .int .i64 0, .int .i64 0, .int .i64 0, .int .i64 0, .int .i64 0, .int .i64 0], 36), (g14, #[.string p0, .string p1, .string p2, .string p3, .string p4, .string p5, .string p6, .string p7], 9), (g5, #[.int .u64 (u : Int), .int .i64 x1, .int .i64 x2, .int .i64 x3, .int .i64 (kindOf p4 i), .int .i64 0, .int .i64 0, .int .i64 0], 36), (g35, #[.pointer (some ⟨g5, 1, none⟩), .pointer (some ⟨g5, 2, none⟩), .pointer (some ⟨g5, 3, none⟩)], 76)] []) (fun v58 _ => 36 - (intOf v58).toNat)
            case atStart => exact ⟨0, by omega, rfl, M7.out⟩
            obtain ⟨i, hi, rfl, M⟩ := hrel
            have ML := Aside0.mk M
            clear M M7
            have M8 := ML
            clear ML
            by_cases bK : i < 36
            · have q2 : (i : Int) < 36 := by omega
              by_cases bE : Laid.nameAt i = p4
              · have eK : kindOf p4 (i + 1) = ((i + 1 : Nat) : Int) := by rw [kindOf, if_pos bE]
                subst bE
                go_wp2_with (first
                    | (refine eName 61 i bK ?_)
                    | (refine eC M8 65 1 4 (.string (Laid.nameAt i)) ?_)
                    | (refine eS M8 3 69 2 4 (.int .i64 ((i : Int) + 1)) #[.int .u64 (u : Int), .int .i64 x1, .int .i64 x2, .int .i64 x3, .int .i64 ((i : Int) + 1), .int .i64 0, .int .i64 0, .int .i64 0] ?_; clear M8; intro w_ M9))
                go_roundw
                case rel => exact ⟨i + 1, by omega, by go_num, by first | (rw [eK]; exact M9.out) | (rw [eK, Int.natCast_add]; exact M9.out)⟩
                case measure => simp [intOf]; omega
              · have eK : kindOf p4 (i + 1) = kindOf p4 i := by rw [kindOf, if_neg bE]
                have e1 : ((Laid.nameAt i).toList == p4.toList) = false := str_ne bE
                go_wp2_with (first
                    | (refine eName 61 i bK ?_)
                    | (refine eC M8 65 1 4 (.string p4) ?_))
                go_roundw
                case rel => exact ⟨i + 1, by omega, by go_num, by first | (rw [eK]; exact M8.out) | (rw [eK, Int.natCast_add]; exact M8.out)⟩
                case measure => simp [intOf]; omega
            · have q2 : ¬ (i : Int) < 36 := by omega
              obtain rfl : i = 36 := by omega
              go_wp2_with (first
                  | (refine eBS M8 74 3 #[.pointer (some ⟨g5, 5, none⟩), .pointer (some ⟨g5, 6, none⟩), .pointer (some ⟨g5, 7, none⟩)] 80 ?_; clear M8; intro g74 w74 M9))
              go_loopw [76] (fun v76 wr => ∃ (i y1 y2 y3 : Int), (i = 0 ∨ i = 1 ∨ i = 2 ∨ i = 3) ∧ v76 = .int .i64 i ∧ I64 y1 ∧ I64 y2 ∧ I64 y3 ∧ (0 < i → Lib.parseIntB 64 p5.data.toList = .ok y1) ∧ (1 < i → Lib.parseIntB 64 p6.data.toList = .ok y2) ∧ (2 < i → Lib.parseIntB 64 p7.data.toList = .ok y3) ∧ Mem [5] w wr [(g2, #[.int .u64 0, .int .i64 0, .int .i64 0, .int .i64 0, .int .i64 0, .int .i64 0, .int .i64 0, .int .i64 0], 36), (g14, #[.string p0, .string p1, .string p2, .string p3, .string p4, .string p5, .string p6, .string p7], 9), (g5, #[.int .u64 (u : Int), .int .i64 x1, .int .i64 x2, .int .i64 x3, .int .i64 (kindOf p4 36), .int .i64 y1, .int .i64 y2, .int .i64 y3], 36), (g35, #[.pointer (some ⟨g5, 1, none⟩), .pointer (some ⟨g5, 2, none⟩), .pointer (some ⟨g5, 3, none⟩)], 76), (g74, #[.pointer (some ⟨g5, 5, none⟩), .pointer (some ⟨g5, 6, none⟩), .pointer (some ⟨g5, 7, none⟩)], 80)] []) (fun v76 _ => 3 - (intOf v76).toNat)
              case atStart => exact ⟨0, 0, 0, 0, .inl rfl, rfl, (by dsimp only [I64]; omega), (by dsimp only [I64]; omega), (by dsimp only [I64]; omega), (fun h => absurd h (by decide)), (fun h => absurd h (by decide)), (fun h => absurd h (by decide)), M9.out⟩
              obtain ⟨i, y1, y2, y3, hi, rfl, j1, j2, j3, g1, g2_, g3, M⟩ := hrel
              have hkd := kind_in p4 36
              have ML := Aside0.mk M
              clear M M9
              have M10 := ML
              clear ML
              by_cases bJ0 : i = 0
              · subst bJ0
                go_wp2_with (first
                    | (refine eC M10 80 4 0 (.pointer (some ⟨g5, 5, none⟩)) ?_)
                    | (refine eC M10 87 1 5 (.string p5) ?_))
                by_cases bB0 : ∃ v, Lib.parseIntB 64 p5.data.toList = .ok v
                · obtain ⟨b0, hb0⟩ := bB0
                  have hinb0 := int_in hb0
                  refine (pint_ok (S.out.below M10.out.below) p5 (Nat.le_trans (pcs_size (by rw [hp]; simp)) hs) b0 hb0).mono ?_
                  rintro e W88 ⟨rfl, hb⟩
                  have M11 := Aside0.mk (Mem.call M10.out hb)
                  clear M10 hb
                  go_wp2_with (first
                      | (refine eS M11 2 91 2 5 (.int .i64 b0) #[.int .u64 (u : Int), .int .i64 x1, .int .i64 x2, .int .i64 x3, .int .i64 (kindOf p4 36), .int .i64 b0, .int .i64 y2, .int .i64 y3] ?_; clear M11; intro w_ M12))
                  go_roundw
                  case rel => exact ⟨1, b0, y2, y3, by decide, rfl, hinb0, j2, j3, (fun _ => hb0), (fun h => absurd h (by decide)), (fun h => absurd h (by decide)), M12.out⟩
                  case measure => simp [intOf]
                · refine (pint_bad (S.out.below M10.out.below) p5 (Nat.le_trans (pcs_size (by rw [hp]; simp)) hs) bB0).mono ?_
                  rintro e W88 ⟨b0, te, pe, rfl, hinb0, hb⟩
                  have M11 := Aside0.mk (Mem.call M10.out hb)
                  clear M10 hb
                  go_wp2_with (first
                      | (refine eS M11 2 91 2 5 (.int .i64 b0) #[.int .u64 (u : Int), .int .i64 x1, .int .i64 x2, .int .i64 x3, .int .i64 (kindOf p4 36), .int .i64 b0, .int .i64 y2, .int .i64 y3] ?_; clear M11; intro w_ M12)
                      | (refine eL M12 94 2 hu36 ?_)
                      | (refine eR M12 36 2 0 #[.int .u64 (u : Int), .int .i64 x1, .int .i64 x2, .int .i64 x3, .int .i64 (kindOf p4 36), .int .i64 b0, .int .i64 y2, .int .i64 y3] ?_; clear M12; intro w_ M13))
                  skip
                  exact bodyPost_ret (results_ct rfl _ _ g2 36 _ (0, 0) _ rfl (M13.out.at 0 rfl) Tryd.underlying36 rfl (by kernel_rfl)) rfl ⟨(⟨(u : Int), x1, ⟨x2, x3⟩, (kindOf p4 36), b0, y2, y3⟩ : S36), false, rfl, ⟨(by dsimp only [Q.EvIn, I64] at *; omega), fun h => by simp at h, fun y hy => absurd ⟨_, (valid_reads hy hp).2.2.2.2.2.1⟩ bB0⟩, M13.out.below⟩
              · by_cases bJ1 : i = 1
                · subst bJ1
                  go_wp2_with (first
                      | (refine eC M10 80 4 1 (.pointer (some ⟨g5, 6, none⟩)) ?_)
                      | (refine eC M10 87 1 6 (.string p6) ?_))
                  by_cases bB1 : ∃ v, Lib.parseIntB 64 p6.data.toList = .ok v
                  · obtain ⟨b1, hb1⟩ := bB1
                    have hinb1 := int_in hb1
                    refine (pint_ok (S.out.below M10.out.below) p6 (Nat.le_trans (pcs_size (by rw [hp]; simp)) hs) b1 hb1).mono ?_
                    rintro e W88 ⟨rfl, hb⟩
                    have M11 := Aside0.mk (Mem.call M10.out hb)
                    clear M10 hb
                    go_wp2_with (first
                        | (refine eS M11 2 91 2 6 (.int .i64 b1) #[.int .u64 (u : Int), .int .i64 x1, .int .i64 x2, .int .i64 x3, .int .i64 (kindOf p4 36), .int .i64 y1, .int .i64 b1, .int .i64 y3] ?_; clear M11; intro w_ M12))
                    go_roundw
                    case rel => exact ⟨2, y1, b1, y3, by decide, rfl, j1, hinb1, j3, (fun _ => g1 (by decide)), (fun _ => hb1), (fun h => absurd h (by decide)), M12.out⟩
                    case measure => simp [intOf]
                  · refine (pint_bad (S.out.below M10.out.below) p6 (Nat.le_trans (pcs_size (by rw [hp]; simp)) hs) bB1).mono ?_
                    rintro e W88 ⟨b1, te, pe, rfl, hinb1, hb⟩
                    have M11 := Aside0.mk (Mem.call M10.out hb)
                    clear M10 hb
                    go_wp2_with (first
                        | (refine eS M11 2 91 2 6 (.int .i64 b1) #[.int .u64 (u : Int), .int .i64 x1, .int .i64 x2, .int .i64 x3, .int .i64 (kindOf p4 36), .int .i64 y1, .int .i64 b1, .int .i64 y3] ?_; clear M11; intro w_ M12)
                        | (refine eL M12 94 2 hu36 ?_)
                        | (refine eR M12 36 2 0 #[.int .u64 (u : Int), .int .i64 x1, .int .i64 x2, .int .i64 x3, .int .i64 (kindOf p4 36), .int .i64 y1, .int .i64 b1, .int .i64 y3] ?_; clear M12; intro w_ M13))
                    skip
                    exact bodyPost_ret (results_ct rfl _ _ g2 36 _ (0, 0) _ rfl (M13.out.at 0 rfl) Tryd.underlying36 rfl (by kernel_rfl)) rfl ⟨(⟨(u : Int), x1, ⟨x2, x3⟩, (kindOf p4 36), y1, b1, y3⟩ : S36), false, rfl, ⟨(by dsimp only [Q.EvIn, I64] at *; omega), fun h => by simp at h, fun y hy => absurd ⟨_, (valid_reads hy hp).2.2.2.2.2.2.1⟩ bB1⟩, M13.out.below⟩
                · by_cases bJ2 : i = 2
                  · subst bJ2
                    go_wp2_with (first
                        | (refine eC M10 80 4 2 (.pointer (some ⟨g5, 7, none⟩)) ?_)
                        | (refine eC M10 87 1 7 (.string p7) ?_))
                    by_cases bB2 : ∃ v, Lib.parseIntB 64 p7.data.toList = .ok v
                    · obtain ⟨b2, hb2⟩ := bB2
                      have hinb2 := int_in hb2
                      refine (pint_ok (S.out.below M10.out.below) p7 (Nat.le_trans (pcs_size (by rw [hp]; simp)) hs) b2 hb2).mono ?_
                      rintro e W88 ⟨rfl, hb⟩
                      have M11 := Aside0.mk (Mem.call M10.out hb)
                      clear M10 hb
                      go_wp2_with (first
                          | (refine eS M11 2 91 2 7 (.int .i64 b2) #[.int .u64 (u : Int), .int .i64 x1, .int .i64 x2, .int .i64 x3, .int .i64 (kindOf p4 36), .int .i64 y1, .int .i64 y2, .int .i64 b2] ?_; clear M11; intro w_ M12))
                      go_roundw
                      case rel => exact ⟨3, y1, y2, b2, by decide, rfl, j1, j2, hinb2, (fun _ => g1 (by decide)), (fun _ => g2_ (by decide)), (fun _ => hb2), M12.out⟩
                      case measure => simp [intOf]
                    · refine (pint_bad (S.out.below M10.out.below) p7 (Nat.le_trans (pcs_size (by rw [hp]; simp)) hs) bB2).mono ?_
                      rintro e W88 ⟨b2, te, pe, rfl, hinb2, hb⟩
                      have M11 := Aside0.mk (Mem.call M10.out hb)
                      clear M10 hb
                      go_wp2_with (first
                          | (refine eS M11 2 91 2 7 (.int .i64 b2) #[.int .u64 (u : Int), .int .i64 x1, .int .i64 x2, .int .i64 x3, .int .i64 (kindOf p4 36), .int .i64 y1, .int .i64 y2, .int .i64 b2] ?_; clear M11; intro w_ M12)
                          | (refine eL M12 94 2 hu36 ?_)
                          | (refine eR M12 36 2 0 #[.int .u64 (u : Int), .int .i64 x1, .int .i64 x2, .int .i64 x3, .int .i64 (kindOf p4 36), .int .i64 y1, .int .i64 y2, .int .i64 b2] ?_; clear M12; intro w_ M13))
                      skip
                      exact bodyPost_ret (results_ct rfl _ _ g2 36 _ (0, 0) _ rfl (M13.out.at 0 rfl) Tryd.underlying36 rfl (by kernel_rfl)) rfl ⟨(⟨(u : Int), x1, ⟨x2, x3⟩, (kindOf p4 36), y1, y2, b2⟩ : S36), false, rfl, ⟨(by dsimp only [Q.EvIn, I64] at *; omega), fun h => by simp at h, fun y hy => absurd ⟨_, (valid_reads hy hp).2.2.2.2.2.2.2⟩ bB2⟩, M13.out.below⟩
                  · obtain rfl : i = 3 := by omega
                    go_wp2_with fail
                    have SAME := Lib.hid (valid_same hp hu (f1 (by decide)) (f2 (by decide)) (f3 (by decide)) (g1 (by decide)) (g2_ (by decide)) (g3 (by decide)))
                    have HIN : Q.EvIn (⟨(u : Int), x1, ⟨x2, x3⟩, (kindOf p4 36), y1, y2, y3⟩ : S36) := (by dsimp only [Q.EvIn, I64] at *; omega)
                    have MP := Aside0.mk (Mem.perm M10.out (perm5 _ _ _ _ _))
                    clear M10
                    obtain ⟨tm, htm⟩ := Q.may_some (u : Int) x1 x2 x3 (kindOf p4 36) y1 y2 y3
                    cases tm
                    · refine dStart2 [10] [(g5, #[.int .u64 (u : Int), .int .i64 x1, .int .i64 x2, .int .i64 x3, .int .i64 (kindOf p4 36), .int .i64 y1, .int .i64 y2, .int .i64 y3], 36)] MP (fun w' M => ?_)
                      have M0 := M
                      clear M MP
                      refine dL M0 0 96 0 hu36 ?_
                      simp only [Act.put, List.setIfInBounds_toArray, List.set_cons_zero, List.set_cons_succ]
                      refine dL M0 1 97 0 hu36 ?_
                      simp only [Act.put, List.setIfInBounds_toArray, List.set_cons_zero, List.set_cons_succ]
                      refine dR [2] ?_
                      refine qK 2 98 Tryd.func33 #[.agg #[.int .u64 (u : Int), .int .i64 x1, .int .i64 x2, .int .i64 x3, .int .i64 (kindOf p4 36), .int .i64 y1, .int .i64 y2, .int .i64 y3]] ?_ AllReadyL.nil
                      refine (trace_may.calls _ _ _ _ _ _ _ _ _ _ htm).mono ?_
                      rintro e W98 ⟨rfl, hb⟩
                      have M1 := Aside0.mk (Mem.call M0.out hb)
                      clear M0 hb
                      refine ⟨_, rfl, M1.out.held (Cells.nil _) rfl, ?_⟩
                      simp only [Act.put, List.setIfInBounds_toArray, List.set_cons_zero, List.set_cons_succ]
                      refine dP 3 99 (.bool false) ?_
                      simp only [Act.put, List.setIfInBounds_toArray, List.set_cons_zero, List.set_cons_succ]
                      refine dN 4 100 ?_
                      simp only [Act.put, List.setIfInBounds_toArray, List.set_cons_zero, List.set_cons_succ]
                      refine dN 5 101 ?_
                      simp only [Act.put, List.setIfInBounds_toArray, List.set_cons_zero, List.set_cons_succ]
                      refine dN 6 102 ?_
                      simp only [Act.put, List.setIfInBounds_toArray, List.set_cons_zero, List.set_cons_succ]
                      refine dN 7 103 ?_
                      simp only [Act.put, List.setIfInBounds_toArray, List.set_cons_zero, List.set_cons_succ]
                      refine dN 8 104 ?_
                      simp only [Act.put, List.setIfInBounds_toArray, List.set_cons_zero, List.set_cons_succ]
                      refine dP 9 105 (.bool false) ?_
                      simp only [Act.put, List.setIfInBounds_toArray, List.set_cons_zero, List.set_cons_succ]
                      refine dR [10] ?_
                      refine qS M1 10 36 2 4 #[.int .u64 (u : Int), .int .i64 x1, .int .i64 x2, .int .i64 x3, .int .i64 (kindOf p4 36), .int .i64 y1, .int .i64 y2, .int .i64 y3] ?_ AllReadyL.nil
                      clear M1
                      intro w_ M4
                      refine dP 11 3 (.bool false) ?_
                      simp only [Act.put, List.setIfInBounds_toArray, List.set_cons_zero, List.set_cons_succ]
                      refine dDone ?_
                      go_wp2_with fail
                      exact bodyPost_ret (results_ct rfl _ _ g2 36 _ (0, 0) _ rfl (M4.out.at 4 rfl) Tryd.underlying36 rfl (by kernel_rfl)) rfl ⟨(⟨(u : Int), x1, ⟨x2, x3⟩, (kindOf p4 36), y1, y2, y3⟩ : S36), false, rfl, ⟨HIN, fun h => by simp at h, fun y hy => by have e := SAME.out y hy; subst e; exact absurd (htm.symm.trans hy.2.1) (by simp)⟩, M4.out.below⟩
                    · have HOK := HIN.ok (Q.may_kind htm rfl)
                      by_cases bS : s = Q.sB (lineE (⟨(u : Int), x1, ⟨x2, x3⟩, (kindOf p4 36), y1, y2, y3⟩ : S36))
                      · have eS : ((⟨(lineE (⟨(u : Int), x1, ⟨x2, x3⟩, (kindOf p4 36), y1, y2, y3⟩ : S36)).toArray⟩ : ByteArray).toList == s.toList) = true := by rw [bS]; exact beq_self_eq_true _
                        refine dStart2 [10] [(g5, #[.int .u64 (u : Int), .int .i64 x1, .int .i64 x2, .int .i64 x3, .int .i64 (kindOf p4 36), .int .i64 y1, .int .i64 y2, .int .i64 y3], 36)] MP (fun w' M => ?_)
                        have M0 := M
                        clear M MP
                        refine dL M0 0 96 0 hu36 ?_
                        simp only [Act.put, List.setIfInBounds_toArray, List.set_cons_zero, List.set_cons_succ]
                        refine dL M0 1 97 0 hu36 ?_
                        simp only [Act.put, List.setIfInBounds_toArray, List.set_cons_zero, List.set_cons_succ]
                        refine dR [2] ?_
                        refine qK 2 98 Tryd.func33 #[.agg #[.int .u64 (u : Int), .int .i64 x1, .int .i64 x2, .int .i64 x3, .int .i64 (kindOf p4 36), .int .i64 y1, .int .i64 y2, .int .i64 y3]] ?_ AllReadyL.nil
                        refine (trace_may.calls _ _ _ _ _ _ _ _ _ _ htm).mono ?_
                        rintro e W98 ⟨rfl, hb⟩
                        have M1 := Aside0.mk (Mem.call M0.out hb)
                        clear M0 hb
                        refine ⟨_, rfl, M1.out.held (Cells.nil _) rfl, ?_⟩
                        simp only [Act.put, List.setIfInBounds_toArray, List.set_cons_zero, List.set_cons_succ]
                        refine dP 3 99 (.bool true) ?_
                        simp only [Act.put, List.setIfInBounds_toArray, List.set_cons_zero, List.set_cons_succ]
                        refine dL M1 4 100 0 hu36 ?_
                        simp only [Act.put, List.setIfInBounds_toArray, List.set_cons_zero, List.set_cons_succ]
                        refine dP 7 103 (.string s) ?_
                        simp only [Act.put, List.setIfInBounds_toArray, List.set_cons_zero, List.set_cons_succ]
                        refine dR [5] ?_
                        refine qK 5 101 Tryd.func40 #[.slice none 0 0, .agg #[.int .u64 (u : Int), .int .i64 x1, .int .i64 x2, .int .i64 x3, .int .i64 (kindOf p4 36), .int .i64 y1, .int .i64 y2, .int .i64 y3]] ?_ AllReadyL.nil
                        refine (line_nil M1 S.out (⟨(u : Int), x1, ⟨x2, x3⟩, (kindOf p4 36), y1, y2, y3⟩ : S36) HOK).mono ?_
                        rintro e W101 ⟨B, c, rfl, M3⟩
                        clear M1
                        refine ⟨_, rfl, M3.out.held (Cells.nil _) rfl, ?_⟩
                        simp only [Act.put, List.setIfInBounds_toArray, List.set_cons_zero, List.set_cons_succ]
                        refine dR [6, 10] ?_
                        refine qC M3 6 102 (.string ⟨(lineE (⟨(u : Int), x1, ⟨x2, x3⟩, (kindOf p4 36), y1, y2, y3⟩ : S36)).toArray⟩) (run_str (Kd.R_reads' M3.out.own).2.2 rfl rfl) ?_ ?_
                        · simp only [Act.put, List.setIfInBounds_toArray, List.set_cons_zero, List.set_cons_succ]
                          refine dP 8 104 (.bool true) ?_
                          simp only [Act.put, List.setIfInBounds_toArray, List.set_cons_zero, List.set_cons_succ]
                          refine dP 9 105 (.bool true) ?_
                          simp only [Act.put, List.setIfInBounds_toArray, List.set_cons_zero, List.set_cons_succ]
                          refine dR [10] ?_
                          refine qS M3 10 36 2 4 #[.int .u64 (u : Int), .int .i64 x1, .int .i64 x2, .int .i64 x3, .int .i64 (kindOf p4 36), .int .i64 y1, .int .i64 y2, .int .i64 y3] ?_ AllReadyL.nil
                          clear M3
                          intro w_ M4
                          refine dP 11 3 (.bool true) ?_
                          simp only [Act.put, List.setIfInBounds_toArray, List.set_cons_zero, List.set_cons_succ]
                          refine dDone ?_
                          go_wp2_with fail
                          exact bodyPost_ret (results_ct rfl _ _ g2 36 _ (0, 0) _ rfl (M4.out.at 4 rfl) Tryd.underlying36 rfl (by kernel_rfl)) rfl ⟨(⟨(u : Int), x1, ⟨x2, x3⟩, (kindOf p4 36), y1, y2, y3⟩ : S36), true, rfl, ⟨HIN, fun _ => ⟨HOK, htm, bS⟩, fun y hy => ⟨rfl, SAME.out y hy⟩⟩, M4.out.below⟩
                        refine qS M3 10 36 2 4 #[.int .u64 (u : Int), .int .i64 x1, .int .i64 x2, .int .i64 x3, .int .i64 (kindOf p4 36), .int .i64 y1, .int .i64 y2, .int .i64 y3] ?_ AllReadyL.nil
                        clear M3
                        intro w_ M4
                        refine dR [6] ?_
                        refine qC M4 6 102 (.string ⟨(lineE (⟨(u : Int), x1, ⟨x2, x3⟩, (kindOf p4 36), y1, y2, y3⟩ : S36)).toArray⟩) (run_str (Kd.R_reads' M4.out.own).2.2 rfl rfl) ?_ AllReadyL.nil
                        simp only [Act.put, List.setIfInBounds_toArray, List.set_cons_zero, List.set_cons_succ]
                        refine dP 8 104 (.bool true) ?_
                        simp only [Act.put, List.setIfInBounds_toArray, List.set_cons_zero, List.set_cons_succ]
                        refine dP 9 105 (.bool true) ?_
                        simp only [Act.put, List.setIfInBounds_toArray, List.set_cons_zero, List.set_cons_succ]
                        refine dP 11 3 (.bool true) ?_
                        simp only [Act.put, List.setIfInBounds_toArray, List.set_cons_zero, List.set_cons_succ]
                        refine dDone ?_
                        go_wp2_with fail
                        exact bodyPost_ret (results_ct rfl _ _ g2 36 _ (0, 0) _ rfl (M4.out.at 4 rfl) Tryd.underlying36 rfl (by kernel_rfl)) rfl ⟨(⟨(u : Int), x1, ⟨x2, x3⟩, (kindOf p4 36), y1, y2, y3⟩ : S36), true, rfl, ⟨HIN, fun _ => ⟨HOK, htm, bS⟩, fun y hy => ⟨rfl, SAME.out y hy⟩⟩, M4.out.below⟩
                      · have eS : (lineE (⟨(u : Int), x1, ⟨x2, x3⟩, (kindOf p4 36), y1, y2, y3⟩ : S36) = s.toList) = False := eq_false (fun h => bS (by rw [ByteArray.toList_eq] at h; rw [h]))
                        refine dStart2 [10] [(g5, #[.int .u64 (u : Int), .int .i64 x1, .int .i64 x2, .int .i64 x3, .int .i64 (kindOf p4 36), .int .i64 y1, .int .i64 y2, .int .i64 y3], 36)] MP (fun w' M => ?_)
                        have M0 := M
                        clear M MP
                        refine dL M0 0 96 0 hu36 ?_
                        simp only [Act.put, List.setIfInBounds_toArray, List.set_cons_zero, List.set_cons_succ]
                        refine dL M0 1 97 0 hu36 ?_
                        simp only [Act.put, List.setIfInBounds_toArray, List.set_cons_zero, List.set_cons_succ]
                        refine dR [2] ?_
                        refine qK 2 98 Tryd.func33 #[.agg #[.int .u64 (u : Int), .int .i64 x1, .int .i64 x2, .int .i64 x3, .int .i64 (kindOf p4 36), .int .i64 y1, .int .i64 y2, .int .i64 y3]] ?_ AllReadyL.nil
                        refine (trace_may.calls _ _ _ _ _ _ _ _ _ _ htm).mono ?_
                        rintro e W98 ⟨rfl, hb⟩
                        have M1 := Aside0.mk (Mem.call M0.out hb)
                        clear M0 hb
                        refine ⟨_, rfl, M1.out.held (Cells.nil _) rfl, ?_⟩
                        simp only [Act.put, List.setIfInBounds_toArray, List.set_cons_zero, List.set_cons_succ]
                        refine dP 3 99 (.bool true) ?_
                        simp only [Act.put, List.setIfInBounds_toArray, List.set_cons_zero, List.set_cons_succ]
                        refine dL M1 4 100 0 hu36 ?_
                        simp only [Act.put, List.setIfInBounds_toArray, List.set_cons_zero, List.set_cons_succ]
                        refine dP 7 103 (.string s) ?_
                        simp only [Act.put, List.setIfInBounds_toArray, List.set_cons_zero, List.set_cons_succ]
                        refine dR [5] ?_
                        refine qK 5 101 Tryd.func40 #[.slice none 0 0, .agg #[.int .u64 (u : Int), .int .i64 x1, .int .i64 x2, .int .i64 x3, .int .i64 (kindOf p4 36), .int .i64 y1, .int .i64 y2, .int .i64 y3]] ?_ AllReadyL.nil
                        refine (line_nil M1 S.out (⟨(u : Int), x1, ⟨x2, x3⟩, (kindOf p4 36), y1, y2, y3⟩ : S36) HOK).mono ?_
                        rintro e W101 ⟨B, c, rfl, M3⟩
                        clear M1
                        refine ⟨_, rfl, M3.out.held (Cells.nil _) rfl, ?_⟩
                        simp only [Act.put, List.setIfInBounds_toArray, List.set_cons_zero, List.set_cons_succ]
                        refine dR [6, 10] ?_
                        refine qC M3 6 102 (.string ⟨(lineE (⟨(u : Int), x1, ⟨x2, x3⟩, (kindOf p4 36), y1, y2, y3⟩ : S36)).toArray⟩) (run_str (Kd.R_reads' M3.out.own).2.2 rfl rfl) ?_ ?_
                        · simp only [Act.put, List.setIfInBounds_toArray, List.set_cons_zero, List.set_cons_succ]
                          refine dP 8 104 (.bool false) ?_
                          simp only [Act.put, List.setIfInBounds_toArray, List.set_cons_zero, List.set_cons_succ]
                          refine dP 9 105 (.bool false) ?_
                          simp only [Act.put, List.setIfInBounds_toArray, List.set_cons_zero, List.set_cons_succ]
                          refine dR [10] ?_
                          refine qS M3 10 36 2 4 #[.int .u64 (u : Int), .int .i64 x1, .int .i64 x2, .int .i64 x3, .int .i64 (kindOf p4 36), .int .i64 y1, .int .i64 y2, .int .i64 y3] ?_ AllReadyL.nil
                          clear M3
                          intro w_ M4
                          refine dP 11 3 (.bool false) ?_
                          simp only [Act.put, List.setIfInBounds_toArray, List.set_cons_zero, List.set_cons_succ]
                          refine dDone ?_
                          go_wp2_with fail
                          exact bodyPost_ret (results_ct rfl _ _ g2 36 _ (0, 0) _ rfl (M4.out.at 4 rfl) Tryd.underlying36 rfl (by kernel_rfl)) rfl ⟨(⟨(u : Int), x1, ⟨x2, x3⟩, (kindOf p4 36), y1, y2, y3⟩ : S36), false, rfl, ⟨HIN, fun h => by simp at h, fun y hy => by have e := SAME.out y hy; subst e; exact absurd hy.2.2 bS⟩, M4.out.below⟩
                        refine qS M3 10 36 2 4 #[.int .u64 (u : Int), .int .i64 x1, .int .i64 x2, .int .i64 x3, .int .i64 (kindOf p4 36), .int .i64 y1, .int .i64 y2, .int .i64 y3] ?_ AllReadyL.nil
                        clear M3
                        intro w_ M4
                        refine dR [6] ?_
                        refine qC M4 6 102 (.string ⟨(lineE (⟨(u : Int), x1, ⟨x2, x3⟩, (kindOf p4 36), y1, y2, y3⟩ : S36)).toArray⟩) (run_str (Kd.R_reads' M4.out.own).2.2 rfl rfl) ?_ AllReadyL.nil
                        simp only [Act.put, List.setIfInBounds_toArray, List.set_cons_zero, List.set_cons_succ]
                        refine dP 8 104 (.bool false) ?_
                        simp only [Act.put, List.setIfInBounds_toArray, List.set_cons_zero, List.set_cons_succ]
                        refine dP 9 105 (.bool false) ?_
                        simp only [Act.put, List.setIfInBounds_toArray, List.set_cons_zero, List.set_cons_succ]
                        refine dP 11 3 (.bool false) ?_
                        simp only [Act.put, List.setIfInBounds_toArray, List.set_cons_zero, List.set_cons_succ]
                        refine dDone ?_
                        go_wp2_with fail
                        exact bodyPost_ret (results_ct rfl _ _ g2 36 _ (0, 0) _ rfl (M4.out.at 4 rfl) Tryd.underlying36 rfl (by kernel_rfl)) rfl ⟨(⟨(u : Int), x1, ⟨x2, x3⟩, (kindOf p4 36), y1, y2, y3⟩ : S36), false, rfl, ⟨HIN, fun h => by simp at h, fun y hy => by have e := SAME.out y hy; subst e; exact absurd hy.2.2 bS⟩, M4.out.below⟩
                    go_wp2_with fail
    · refine (uint_bad (S.out.below M3.out.below) p0 (Nat.le_trans (pcs_size (by rw [hp]; simp)) hs) bU).mono ?_
      rintro e W23 ⟨u, te, pe, rfl, hinu, hb⟩
      have M4 := Aside0.mk (Mem.call M3.out hb)
      clear M3 hb
      go_wp2_with (first
          | (refine eS M4 34 26 2 0 (.int .u64 u) #[.int .u64 u, .int .i64 0, .int .i64 0, .int .i64 0, .int .i64 0, .int .i64 0, .int .i64 0, .int .i64 0] ?_; clear M4; intro w_ M5)
          | (refine eL M5 29 2 hu36 ?_)
          | (refine eR M5 36 2 0 #[.int .u64 u, .int .i64 0, .int .i64 0, .int .i64 0, .int .i64 0, .int .i64 0, .int .i64 0, .int .i64 0] ?_; clear M5; intro w_ M6))
      skip
      exact bodyPost_ret (results_ct rfl _ _ g2 36 _ (0, 0) _ rfl (M6.out.at 0 rfl) Tryd.underlying36 rfl (by kernel_rfl)) rfl ⟨(⟨u, 0, ⟨0, 0⟩, 0, 0, 0, 0⟩ : S36), false, rfl, ⟨(by dsimp only [Q.EvIn, I64] at *; omega), fun h => by simp at h, fun y hy => absurd ⟨_, (valid_reads hy hp).1⟩ bU⟩, M6.out.below⟩
  · have e0 : (((pcs s 32).length : Int) != 8) = true := bne_iff_ne.mpr (by omega)
    go_wp2_with (first
        | (refine eR M2 36 2 0 #[.int .u64 0, .int .i64 0, .int .i64 0, .int .i64 0, .int .i64 0, .int .i64 0, .int .i64 0, .int .i64 0] ?_; clear M2; intro w_ M3))
    skip
    exact bodyPost_ret (results_ct rfl _ _ g2 36 _ (0, 0) _ rfl (M3.out.at 0 rfl) Tryd.underlying36 rfl (by kernel_rfl)) rfl ⟨(⟨0, 0, ⟨0, 0⟩, 0, 0, 0, 0⟩ : S36), false, rfl, ⟨(by dsimp only [Q.EvIn, I64] at *; omega), fun h => by simp at h, fun y hy => absurd (valid_eight hy) bN⟩, M3.out.below⟩
end Go.Proofs.YtphbepddhhdhmaaDoor.Hof
end

section
/-
  trace.Parse, walked.
-/
set_option linter.unusedVariables false
set_option linter.unusedSimpArgs false
namespace Go.Proofs.YtphbepddhhdhmaaDoor.Hof
open Go.RowKit Go.Shelf Go.Proofs.YtphbepddhhdhmaaDoorW.PrintWords Go.Proofs.YtphbepddhhdhmaaDoorW.PrintLast Go.Proofs.YtphbepddhhdhmaaDoorW.PrintMore GA Hctx Hof Q

set_option maxHeartbeats 4000000 in
set_option maxRecDepth 100000 in
theorem parse_calls (s : ByteArray) (hs : s.size ≤ 268435457) (w : World) (S0 : Std w) :
    Calls Tryd.prog 30 #[.string s] w (Parsed (parseR s) w) := by
  have hu36 := Tryd.underlying36
  have S := Lib.hid S0
  clear S0
  have M0 := Aside0.mk (Mem.nilS (d := k36) (e := 36) (Mem.start [36] w) (by decide))
  by_cases hL : 268435456 < s.size
  · have hR := Lib.hid (show parseR s = ([], 2, 0) by unfold parseR; rw [if_pos hL])
    have hLb : decide ((s.size : Int) > 268435456) = true := decide_eq_true (by omega)
    go_enter Tryd.func30, Tryd.ntmps30
    go_wp2
    go_ret3
    rw [hR.out]
    exact parsed_nil 2 0 (Below.refl _ _)
  · have hR := Lib.hid (show parseR s = scan [] [] s.data.toList by unfold parseR; rw [if_neg hL])
    have hLb : decide ((s.size : Int) > 268435456) = false := decide_eq_false (by omega)
    rw [hR.out]
    clear hR
    generalize hres : scan [] [] s.data.toList = res
    have hres' := Lib.hid hres
    clear hres
    go_enter Tryd.func30, Tryd.ntmps30
    go_wp2_with fail
    go_loopw [0, 5, 6] (fun v0 v5 v6 wr => ∃ (t : ByteArray) (done : List S36), v0 = .string t ∧ v6 = .int .i64 ((done.length : Int) + 1) ∧ scan [] done t.data.toList = res ∧ done.length + t.size ≤ s.size ∧ Mem [36] w wr [] [⟨k36, 36, v5, done⟩]) (fun v0 _ _ _ => match v0 with | .string t => t.size | _ => 0)
    case atStart => exact ⟨s, [], rfl, rfl, hres'.out, by simp, M0.out⟩
    obtain ⟨t, done, rfl, rfl, hsc, hln, M⟩ := hrel
    have ML := Aside0.mk M
    clear M M0 hL hLb
    have SC := Lib.hid hsc
    have hb1 : (done.length : Int) < 300000000 := by omega
    have HL64 := Lib.hid (show (done.length + 1) * 64 ≤ 140737488355328 by omega)
    clear hsc
    obtain ⟨B, c5, rfl⟩ := Kd.R_slice ML.out.own
    by_cases h0 : t.data.toList = []
    · have e0 : t.toList = [] := by rw [ByteArray.toList_eq]; exact h0
      have hr := SC.out
      rw [h0, scan, if_pos rfl] at hr
      have HRR := Lib.hid hr
      clear hr h0 SC
      go_wp2
      go_ret3
      rw [← HRR.out]
      exact ⟨_, rfl, ML.out.own, ML.out.below⟩
    · have e0 : ¬ t.toList = [] := by rw [ByteArray.toList_eq]; exact h0
      have e1 : (!t.toList.isEmpty) = true := by
        cases hq : t.toList with
        | nil => exact absurd hq e0
        | cons _ _ => rfl
      by_cases h10 : (10 : UInt8) ∈ t.data.toList
      · obtain ⟨p, r, hp, hpn⟩ := first10 _ h10
        have hsz : t.size = p.length + r.length + 1 := by
          have h := congrArg List.length hp
          have hz : t.data.toList.length = t.size := Array.length_toList
          simp at h; simp at hz; omega
        have SP := Lib.hid (show scan p done (10 :: r) = res by rw [← SC.out, hp, scan_hit done p r [] hpn, List.nil_append])
        have HP := Lib.hid hp
        clear hp h10 h0 SC
        go_wp2_with fail
        refine (cut_hit (S.out.below ML.out.below) t p r HP.out hpn (by omega)).mono ?_
        rintro e W21 ⟨rfl, hb⟩
        have M1 := Aside0.mk (Mem.call ML.out hb)
        clear ML hb
        go_wp2_with fail
        refine (read_calls (sB p) (by rw [sB_size]; omega) W21 (S.out.below M1.out.below)).mono ?_
        rintro e W27 ⟨x, ok, rfl, hrd, hb⟩
        have M2 := Aside0.mk (Mem.call M1.out hb)
        have HRD := Lib.hid hrd
        clear M1 hb hrd
        have N0 := Aside0.mk (Mem.start [] W27)
        cases ok
        · have hres2 := SP.out
          rw [scan_none done p r (evOf_no HRD.out rfl)] at hres2
          have HRR := Lib.hid hres2
          clear hres2
          go_wp2_with (first
            | (refine eB N0 10 #[.int .u64 0, .int .i64 0, .int .i64 0, .int .i64 0, .int .i64 0, .int .i64 0, .int .i64 0, .int .i64 0] 36 ?_; clear N0; intro g10 w10 N1)
            | (refine eR N1 36 10 0 (evC x) ?_; clear N1; intro w_ N2))
          go_ret3
          rw [← HRR.out]
          exact parsed_nil 250 _ (below_step M2.out.below N2.out.below)
        · have hev := evOf_yes HRD.out rfl
          go_wp2_with (first
            | (refine eB N0 10 #[.int .u64 0, .int .i64 0, .int .i64 0, .int .i64 0, .int .i64 0, .int .i64 0, .int .i64 0, .int .i64 0] 36 ?_; clear N0; intro g10 w10 N1)
            | (refine eR N1 36 10 0 (evC x) ?_; clear N1; intro w_ N2))
          by_cases hd : 0 < done.length
          · obtain ⟨ad, c, hv, hx1⟩ := last_cell M2.out.own hd
            obtain ⟨rfl, rfl⟩ : B = some ad ∧ c5 = c := by injection hv with h1 h2 h3; exact ⟨h1, h3⟩
            clear hv
            obtain ⟨m, hm⟩ : ∃ m, done.length = m + 1 := ⟨done.length - 1, by omega⟩
            have hm1 : (done.length : Int) - 1 = (m : Int) := by omega
            rw [hm1, Int.toNat_natCast] at hx1
            have HLOW := Lib.hid (show low done x ↔ x.f0 < (rd_T36 done (m : Int)).f0 by unfold low; rw [hm1]; exact ⟨fun h => h.2, fun h => ⟨hd, h⟩⟩)
            replace hx1 := (N2.out.below.cell (World.block_lt_of_cell? _ _ hx1)).trans hx1
            have hx0 : w_.cell? ⟨g10, 0, none⟩ = some (.int .u64 x.f0) := N2.out.cell 0 rfl 0
            have hdb : decide (0 < done.length) = true := decide_eq_true hd
            have w1 : IntKind.i64.wrap ((done.length : Int) - 1) = (m : Int) := by rw [hm1]; exact IntWalk.i64_in _ (by omega)
            have q0 : (0 ≤ (m : Int)) = True := eq_true (by omega)
            have q1 : ((m : Int) < (done.length : Int)) = True := eq_true (by omega)
            have HM := Lib.hid hm
            clear hm hm1 hd
            by_cases hlow : x.f0 < (rd_T36 done (m : Int)).f0
            · have hlb : decide (x.f0 < (rd_T36 done (m : Int)).f0) = true := decide_eq_true hlow
              have hres2 := SP.out
              rw [scan_low done p r x hev (HLOW.out.2 hlow)] at hres2
              have HRR := Lib.hid hres2
              clear hres2 hlow
              go_quiet (fail)
              go_wp2
              go_ret3
              rw [← HRR.out]
              exact parsed_nil 251 _ (below_step M2.out.below (pw_below_drewN N2.out.below _))
            · have hlb : decide (x.f0 < (rd_T36 done (m : Int)).f0) = false := decide_eq_false hlow
              have hres2 := SP.out
              rw [scan_some done p r x hev (fun h => hlow (HLOW.out.1 h))] at hres2
              have HRR := Lib.hid hres2
              clear hres2 hlow
              go_quiet (fail)
              have HLN := Lib.hid (And.intro hb1 (And.intro hln hsz))
              clear hx1 hx0 w1 q0 q1 hsz hln hb1
              have N3 := Aside0.mk (Mem.drewN N2.out nq)
              have M3 := Aside0.mk (Mem.call M2.out (pw_below_drewN N2.out.below nq))
              clear N2 M2
              revert N3 M3
              generalize w_.drewN nq = W3
              intro N3 M3
              replace N3 : Aside0 (Mem [] W27 W3 [(g10, #[.int .u64 x.f0, .int .i64 x.f1, .int .i64 x.f2.f0, .int .i64 x.f2.f1, .int .i64 x.f3, .int .i64 x.f4, .int .i64 x.f5, .int .i64 x.f6], 36)] []) := N3
              go_wp2_with (first
                | ((with_reducible refine gate_dst (N := 56) rfl ?_); refine eL N3 56 0 hu36 ?_)
                | ((with_reducible refine gate_builtin (b := .append) (xs := #[.tmp 55, .tmp 57]) rfl ?_); at_builtin; refine eApp1 M3 58 x [.int .u64 x.f0, .int .i64 x.f1, .int .i64 x.f2.f0, .int .i64 x.f2.f1, .int .i64 x.f3, .int .i64 x.f4, .int .i64 x.f5, .int .i64 x.f6] (.agg #[(.int .u64 0), (.int .i64 0), (.int .i64 0), (.int .i64 0), (.int .i64 0), (.int .i64 0), (.int .i64 0), (.int .i64 0)]) 64 (k36_mkM _ _ _ x) HL64.out ?_; intro v5 w58 M4))
              go_roundw
              case rel => exact ⟨sB r, done ++ [x], rfl, by have h := HLN.out.1; rw [List.length_append]; simp; exact IntWalk.wrap64_in _ (by omega), HRR.out, by have h := HLN.out; rw [sB_size, List.length_append]; simp; omega, M4.out⟩
              case measure => have h := HLN.out; simp only [sB_size]; omega
          · have hdb : decide (0 < done.length) = false := decide_eq_false hd
            · have hres2 := SP.out
              rw [scan_some done p r x hev (fun h => hd h.1)] at hres2
              have HRR := Lib.hid hres2
              clear hres2 hd
              go_quiet (fail)
              have HLN := Lib.hid (And.intro hb1 (And.intro hln hsz))
              clear hsz hln hb1
              have N3 := Aside0.mk (Mem.drewN N2.out nq)
              have M3 := Aside0.mk (Mem.call M2.out (pw_below_drewN N2.out.below nq))
              clear N2 M2
              revert N3 M3
              generalize w_.drewN nq = W3
              intro N3 M3
              replace N3 : Aside0 (Mem [] W27 W3 [(g10, #[.int .u64 x.f0, .int .i64 x.f1, .int .i64 x.f2.f0, .int .i64 x.f2.f1, .int .i64 x.f3, .int .i64 x.f4, .int .i64 x.f5, .int .i64 x.f6], 36)] []) := N3
              go_wp2_with (first
                | ((with_reducible refine gate_dst (N := 56) rfl ?_); refine eL N3 56 0 hu36 ?_)
                | ((with_reducible refine gate_builtin (b := .append) (xs := #[.tmp 55, .tmp 57]) rfl ?_); at_builtin; refine eApp1 M3 58 x [.int .u64 x.f0, .int .i64 x.f1, .int .i64 x.f2.f0, .int .i64 x.f2.f1, .int .i64 x.f3, .int .i64 x.f4, .int .i64 x.f5, .int .i64 x.f6] (.agg #[(.int .u64 0), (.int .i64 0), (.int .i64 0), (.int .i64 0), (.int .i64 0), (.int .i64 0), (.int .i64 0), (.int .i64 0)]) 64 (k36_mkM _ _ _ x) HL64.out ?_; intro v5 w58 M4))
              go_roundw
              case rel => exact ⟨sB r, done ++ [x], rfl, by have h := HLN.out.1; rw [List.length_append]; simp; exact IntWalk.wrap64_in _ (by omega), HRR.out, by have h := HLN.out; rw [sB_size, List.length_append]; simp; omega, M4.out⟩
              case measure => have h := HLN.out; simp only [sB_size]; omega
      · have hres2 := SC.out
        rw [scan_miss done _ [] h10 (by simpa using h0)] at hres2
        have HRR := Lib.hid hres2
        clear hres2
        go_wp2_with fail
        refine (cut_miss (S.out.below ML.out.below) t h10 (by omega)).mono ?_
        rintro e W21 ⟨rfl, hb⟩
        have M1 := Aside0.mk (Mem.call ML.out hb)
        clear ML hb
        go_wp2_with fail
        refine (read_calls t (by omega) W21 (S.out.below M1.out.below)).mono ?_
        rintro e W27 ⟨x, ok, rfl, hrd, hb⟩
        have M2 := Aside0.mk (Mem.call M1.out hb)
        clear M1 hb hrd
        have N0 := Aside0.mk (Mem.start [] W27)
        go_wp2_with (first
          | (refine eB N0 10 #[.int .u64 0, .int .i64 0, .int .i64 0, .int .i64 0, .int .i64 0, .int .i64 0, .int .i64 0, .int .i64 0] 36 ?_; clear N0; intro g10 w10 N1)
          | (refine eR N1 36 10 0 (evC x) ?_; clear N1; intro w_ N2))
        go_ret3
        rw [← HRR.out]
        exact parsed_nil 250 _ (below_step M2.out.below N2.out.below)
end Go.Proofs.YtphbepddhhdhmaaDoor.Hof
end
