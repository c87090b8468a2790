import Derived.Test.YtonnlkpmfmknlaaDoorMBk0
import Derived.Test.YtonnlkpmfmknlaaDoorMB6
import Derived.Test.YtonnlkpmfmknlaaDoorMB4
import Derived.Lib.LaidTab
import Derived.Lib.AppendIntMem
import Derived.Lib.ItoaLen
import Derived.Test.YtonnlkpmfmknlaaDoorMB5
import Derived.IntWalk
section
/-
  script.Print, walked.
-/
set_option linter.unusedVariables false
set_option linter.unusedSimpArgs false
namespace Go.Proofs.YtonnlkpmfmknlaaDoor.Q
open Go.RowKit Go.Lib Go.Proofs.YtonnlkpmfmknlaaDoor.GA
/-- The numbers of a line. -/
def itemsU (l : List Int) : List UInt8 := l.flatMap fun n => 32 :: decDigits n.toNat
def itemsI (l : List Int) : List UInt8 := l.flatMap fun n => 32 :: itoa n
def stealL (d : Nat) (l : List Int) : List UInt8 := if l.length = 0 then [] else [115, 116, 101, 97, 108, 32] ++ itoa d ++ itemsU l ++ [10]
def inputL (d : Nat) (l : List Int) : List UInt8 := if l.length = 0 then [] else [105, 110, 112, 117, 116, 32] ++ itoa d ++ itemsI l ++ [10]
/-- Choices as a text. -/
def prn : Nat → List S32 → List UInt8
  | _, [] => []
  | d, x :: t => stealL d x.f0 ++ inputL d x.f1 ++ prn (d + 1) t
def InR (l : List S32) : Prop := ∀ x ∈ l, (∀ n ∈ x.f0, 0 ≤ n ∧ n < 4294967296) ∧ (∀ n ∈ x.f1, -9223372036854775808 ≤ n ∧ n ≤ 9223372036854775807)
theorem itoa_len (n : Int) (h0 : -9223372036854775808 ≤ n) (h1 : n ≤ 9223372036854775807) : (itoa n).length ≤ 21 := by
  have key : ∀ u : Nat, u < 18446744073709551616 → (decDigits u).length ≤ 20 := fun u hu => by
    rw [decDigits_length]
    exact Lib.nDigits_le20 _ (by omega)
  by_cases h : n < 0
  · obtain ⟨u, rfl⟩ : ∃ u : Nat, n = -(u : Int) := ⟨n.natAbs, by omega⟩
    rw [itoa_neg u (by omega), List.length_cons]
    have := key u (by omega); omega
  · obtain ⟨u, rfl⟩ : ∃ u : Nat, n = u := ⟨n.toNat, by omega⟩
    rw [itoa_nonneg]
    have := key u (by omega); omega
end Go.Proofs.YtonnlkpmfmknlaaDoor.Q
namespace Go.Proofs.YtonnlkpmfmknlaaDoor.Hof
open Go.RowKit Go.Shelf Go.Proofs.YtonnlkpmfmknlaaDoorW.PrintWords Go.Proofs.YtonnlkpmfmknlaaDoorW.PrintLast Go.Proofs.YtonnlkpmfmknlaaDoorW.PrintMore Hctx GA
/-- The table of powers of ten, in every world above. -/
def TB (w : World) : Prop := Lib.TabBelow Tryd.prog w.heap.size w "internal/strconv.uint64pow10" .u64 Lib.pow10Tab
section
variable {w w0 W : World} {l : List (Nat × Array Value × TypeId)} {b : Nat} {s : List UInt8}
theorem itoa_calls (h : TB w) (hb : Below w.heap.size w W) (n : Int) (h0 : -9223372036854775808 ≤ n) (h1 : n ≤ 9223372036854775807) : Calls Tryd.prog 41 #[.int .i64 n] W fun e W' => e = .returned (.string ⟨(Lib.itoa n).toArray⟩) ∧ Below W.heap.size W W' :=
  (Tryd.strconv_Itoa n h0 h1 W (h W hb)).mono fun e W' ⟨he, k, os, hw⟩ => ⟨he, by rw [hw]; exact Lib.below_grow _ W (Nat.le_refl _) k os⟩
theorem fint_calls (h : TB w) (hb : Below w.heap.size w W) (n : Int) (h0 : -9223372036854775808 ≤ n) (h1 : n ≤ 9223372036854775807) : Calls Tryd.prog 43 #[.int .i64 n, .int .i64 10] W fun e W' => e = .returned (.string ⟨(Lib.itoa n).toArray⟩) ∧ Below W.heap.size W W' :=
  (Tryd.strconv_FormatInt_10 n h0 h1 W (h W hb)).mono fun e W' ⟨he, k, os, hw⟩ => ⟨he, by rw [hw]; exact Lib.below_grow _ W (Nat.le_refl _) k os⟩
theorem fuint_calls (h : TB w) (hb : Below w.heap.size w W) (u : Nat) (hu : u < 18446744073709551616) : Calls Tryd.prog 42 #[.int .u64 u, .int .i64 10] W fun e W' => e = .returned (.string ⟨(Lib.decDigits u).toArray⟩) ∧ Below W.heap.size W W' :=
  (Hbld.pfmt_calls u hu W (h W hb)).mono fun e W' ⟨he, k, os, hw⟩ => ⟨he, by rw [hw]; exact Lib.below_grow _ W (Nat.le_refl _) k os⟩
theorem write_mem (M : MemB 69 [] w0 W l b s) (z : ByteArray) (hlen : s.length + z.size ≤ 140737488355328) :
    Calls Tryd.prog 40 #[.pointer (some ⟨b, 0, none⟩), .string z] W fun e W' => e = .returned (.tuple #[.int .i64 z.size, .nilIface]) ∧ MemB 69 [] w0 W' l b (s ++ z.data.toList) :=
  (Hbld.write_calls w0.heap.size b (Lib.byteCells s) z W M.bld (by rw [Lib.byteCells_length]; exact hlen) M.mem.below.size).mono fun e W' ⟨he, hI, hb, hk⟩ => ⟨he, M.wrote (by
    have e : Lib.byteCells (s ++ z.data.toList) = Lib.byteCells s ++ Lib.strCells z := by rw [Lib.strCells_eq]; exact List.map_append
    rw [e]; exact hI) hb hk⟩
end
theorem full_len {a b c : List UInt8} {N : Nat} (h : a ++ b = c) (hc : c.length ≤ N) : a.length ≤ N := by
  rw [← h, List.length_append] at hc; omega
theorem ba_app (a b : List UInt8) : (⟨a.toArray⟩ ++ ⟨b.toArray⟩ : ByteArray).data.toList = a ++ b := by simp
theorem ba_size (a b : List UInt8) : (⟨a.toArray⟩ ++ ⟨b.toArray⟩ : ByteArray).size = a.length + b.length := by simp [ByteArray.size_append]; rfl
theorem below_two {w W W1 : World} (b0 : Below w.heap.size w W) (b1 : Below w.heap.size W W1) : Below w.heap.size w W1 :=
  ⟨b1.os.trans b0.os, b1.tape.trans b0.tape, b1.output.trans b0.output, Nat.le_trans b0.size b1.size, fun j hj => (b1.block j hj).trans (b0.block j hj)⟩
set_option maxHeartbeats 4000000 in
set_option maxRecDepth 100000 in
theorem print_calls (A : Option Addr) (c : Nat) (l : List S32) (w : World) (hl : k32.C w A l.length l) (hc : l.length ≤ c) (hT : TB w) (hin : Q.InR l) (hbig : (Q.prn 0 l).length ≤ 1099511627776) (hl16 : l.length ≤ 1099511627776) (hsm : ∀ x ∈ l, x.f0.length ≤ 1099511627776 ∧ x.f1.length ≤ 1099511627776) :
    Calls Tryd.prog 24 #[.slice A l.length c] w fun e W' => e = .returned (.string ⟨(Q.prn 0 l).toArray⟩) ∧ Below w.heap.size w W' := by
  have hu32 := Tryd.underlying32
  have HR := Lib.hid hl
  have HT := Lib.hid hT
  have HIN := Lib.hid hin
  have HBIG := Lib.hid hbig
  have HL := Lib.hid hl16
  have HSM := Lib.hid hsm
  have HC := Lib.hid hc
  clear hl hT hin hbig hl16 hsm hc
  go_enter Tryd.func24, Tryd.ntmps24
  go_wp2_with fail
  go_loopw [12] (fun v12 wr => ∃ (d : Nat) (s : List UInt8), d ≤ l.length ∧ v12 = .int .i64 d ∧ MemB 69 [] w wr [] w.heap.size s ∧ s ++ Q.prn d (l.drop d) = Q.prn 0 l) (fun v12 _ => l.length - (intOf v12).toNat)
  case atStart => exact ⟨0, [], Nat.zero_le _, rfl, MemB.start [] w 69, by rw [List.drop_zero, List.nil_append]⟩
  rename World => w1
  obtain ⟨d, s, hd, rfl, M0, heq⟩ := hrel
  have M1 := Aside0.mk M0
  have HEQ := Lib.hid heq
  clear M0 heq
  by_cases hdl : d < l.length
  · have hx : rd_T32 l (d : Int) = l[d] := by unfold rd_T32; rw [Int.toNat_natCast, List.getD_eq_getElem?_getD, List.getElem?_eq_getElem hdl]; rfl
    have HDL := Lib.hid hdl
    have HDR := Lib.hid (show l.drop d = rd_T32 l (d : Int) :: l.drop (d + 1) by rw [hx]; exact List.drop_eq_getElem_cons hdl)
    have HXI := Lib.hid (HIN.out _ (by rw [hx]; exact List.getElem_mem hdl : rd_T32 l (d : Int) ∈ l))
    have HXS := Lib.hid (HSM.out _ (by rw [hx]; exact List.getElem_mem hdl : rd_T32 l (d : Int) ∈ l))
    have qd : (d : Int) < (l.length : Int) := by omega
    have W12 := Lib.hid (show wrap64 ((d : Int) + 1) = ((d + 1 : Nat) : Int) by rw [Int.natCast_add]; exact IntWalk.wrap64_in _ (by have := HL.out; omega))
    obtain ⟨ad, A0, c0, A1, c1, rfl, x0, x1, l0, g0, l1, g1⟩ := at_T32 HR.out (d : Int) (by omega) qd
    rw [Int.toNat_natCast] at x0 x1
    have HB1 := Lib.hid M1.out.mem.below
    have y0 := (HB1.out.cell (World.block_lt_of_cell? w _ x0)).trans x0
    have y1 := (HB1.out.cell (World.block_lt_of_cell? w _ x1)).trans x1
    have HG0 := Lib.hid g0
    have HG1 := Lib.hid g1
    have HC0 := Lib.hid l0
    have HC1 := Lib.hid l1
    clear hx hdl hd x0 x1 g0 g1 l0 l1
    generalize rd_T32 l (d : Int) = x at HDR HXI HXS HG0 HG1 HC0 HC1 y0 y1
    by_cases h0 : x.f0.length = 0
    · have z0 : (0 < x.f0.length) = False := eq_false (by omega)
      have z0' : decide (0 < x.f0.length) = false := decide_eq_false (by omega)
      have HS0 := Lib.hid (show Q.stealL d x.f0 = [] from if_pos h0)
      clear h0
      by_cases h1 : x.f1.length = 0
      · have z1 : (0 < x.f1.length) = False := eq_false (by omega)
        have z1' : decide (0 < x.f1.length) = false := decide_eq_false (by omega)
        have HI0 := Lib.hid (show Q.inputL d x.f1 = [] from if_pos h1)
        clear h1
        go_wp2_with (first
          | (refine bB M1 5 #[.slice none 0 0, .slice none 0 0] 32 ?_; clear M1; intro g5 wb M2)
          | ((with_reducible refine gate_store (t := 32) (p := 5) rfl ?_); refine bR M2 32 5 0 #[.slice A0 x.f0.length c0, .slice A1 x.f1.length c1] ?_; clear M2 y0 y1; intro wc M3; have k0 := M3.out.mem.cell 0 rfl 0; have k1 := M3.out.mem.cell 0 rfl 1)
          | fail)
        go_roundw
        case rel => exact ⟨d + 1, s, HDL.out, by rw [W12.out], M3.out.forget 0, by
          have h := HEQ.out
          rw [HDR.out, Q.prn, HI0.out, HS0.out] at h
          simp only [List.nil_append, List.append_nil, List.append_assoc] at h ⊢
          exact h⟩
        case measure => exact meas HDL.out W12.out
      · have z1 : (0 < x.f1.length) = True := eq_true (by omega)
        have z1' : decide (0 < x.f1.length) = true := decide_eq_true (by omega)
        have HI0 := Lib.hid (show Q.inputL d x.f1 = [105, 110, 112, 117, 116, 32] ++ Lib.itoa d ++ Q.itemsI x.f1 ++ [10] from if_neg h1)
        have HIL3 := Lib.hid (Q.itoa_len (d : Int) (by omega) (by have := HL.out; have := HDL.out; omega))
        have HFL3 := Lib.hid (show (s ++ ([105, 110, 112, 117, 116, 32] ++ Lib.itoa d) ++ Q.itemsI x.f1).length ≤ 1099511627776 by
          have h1 := HEQ.out
          rw [HDR.out, Q.prn, HI0.out, HS0.out, List.nil_append] at h1
          have h2 := congrArg List.length h1
          simp only [List.length_append] at h2 ⊢
          have := HBIG.out
          omega)
        clear h1
        go_wp2_with (first
          | (refine bB M1 5 #[.slice none 0 0, .slice none 0 0] 32 ?_; clear M1; intro g5 wb M2)
          | ((with_reducible refine gate_store (t := 32) (p := 5) rfl ?_); refine bR M2 32 5 0 #[.slice A0 x.f0.length c0, .slice A1 x.f1.length c1] ?_; clear M2 y0 y1; intro wc M3; have k0 := M3.out.mem.cell 0 rfl 0; have k1 := M3.out.mem.cell 0 rfl 1)
          | fail)
        refine (itoa_calls HT.out M3.out.mem.below (d : Int) (by omega) (by have := HL.out; have := HDL.out; omega)).mono ?_
        rintro e W44 ⟨rfl, hb44⟩
        have M12 := Aside0.mk (M3.out.call hb44)
        clear M3 hb44 k1
        have ov3 : (9223372036854775807 < 6 + (Lib.itoa (d : Int)).length) = False := eq_false (by have := HIL3.out; omega)
        go_wp2_with fail
        refine (write_mem M12.out _ (by have h1 := HFL3.out; have h2 := HIL3.out; rw [ba_size [105, 110, 112, 117, 116, 32]]; simp only [List.length_append, List.length_cons, List.length_nil] at h1 ⊢; omega)).mono ?_
        rintro e W46 ⟨rfl, M13⟩
        rw [ba_app [105, 110, 112, 117, 116, 32]] at M13
        have M14 := Aside0.mk M13
        have k1 := M14.out.mem.cell 0 rfl 1
        clear M12 M13 ov3
        go_wp2_with fail
        go_loopw [50] (fun v50 wr => ∃ (i : Nat) (s1 : List UInt8), i ≤ x.f1.length ∧ v50 = .int .i64 i ∧ MemB 69 [] w wr [(g5, #[.slice A0 x.f0.length c0, .slice A1 x.f1.length c1], 32)] w.heap.size s1 ∧ s1 ++ Q.itemsI (x.f1.drop i) = s ++ ([105, 110, 112, 117, 116, 32] ++ Lib.itoa d) ++ Q.itemsI x.f1) (fun v50 _ => x.f1.length - (intOf v50).toNat)
        case atStart => exact ⟨0, _, Nat.zero_le _, rfl, M14.out, by rw [List.drop_zero]⟩
        rename World => w3
        obtain ⟨i, s1, hi, rfl, M15, hq⟩ := hrel
        have M16 := Aside0.mk M15
        have HQ3 := Lib.hid hq
        clear M14 M15 hq k1
        by_cases hix : i < x.f1.length
        · obtain ⟨ad2, rfl, hcell⟩ := Kd.at_int HG1.out (i : Int) (by omega) (by omega)
          rw [Int.toNat_natCast] at hcell
          have yc := (M16.out.mem.below.cell (World.block_lt_of_cell? _ _ hcell)).trans hcell
          have hn : rd x.f1 (i : Int) = x.f1[i] := by unfold rd; rw [Int.toNat_natCast, List.getD_eq_getElem?_getD, List.getElem?_eq_getElem hix]; rfl
          have HRN := Lib.hid (show -9223372036854775808 ≤ rd x.f1 (i : Int) ∧ rd x.f1 (i : Int) ≤ 9223372036854775807 by rw [hn]; exact HXI.out.2 _ (List.getElem_mem hix))
          have HDI := Lib.hid (show x.f1.drop i = rd x.f1 (i : Int) :: x.f1.drop (i + 1) by rw [hn]; exact List.drop_eq_getElem_cons hix)
          have HIX := Lib.hid hix
          have qi : (i : Int) < (x.f1.length : Int) := by omega
          have W50 := Lib.hid (show wrap64 ((i : Int) + 1) = ((i + 1 : Nat) : Int) by rw [Int.natCast_add]; exact IntWalk.wrap64_in _ (by have := HXS.out.2; omega))
          clear hcell hn hix hi
          generalize rd x.f1 (i : Int) = u at yc HRN HDI
          have HIL4 := Lib.hid (Q.itoa_len u HRN.out.1 HRN.out.2)
          go_wp2_with fail
          refine (fint_calls HT.out M16.out.mem.below u HRN.out.1 HRN.out.2).mono ?_
          rintro e W55 ⟨rfl, hb55⟩
          have M17 := Aside0.mk (M16.out.call hb55)
          clear M16 hb55 yc
          have ov : (9223372036854775807 < 1 + (Lib.itoa u).length) = False := eq_false (by have := HIL4.out; omega)
          go_wp2_with fail
          refine (write_mem M17.out _ (by have h1 := full_len HQ3.out HFL3.out; have h2 := HIL4.out; rw [ba_size [32]]; simp only [List.length_cons, List.length_nil]; omega)).mono ?_
          rintro e W57 ⟨rfl, M18⟩
          rw [ba_app [32]] at M18
          have M19 := Aside0.mk M18
          clear M17 M18 ov
          go_wp2
          go_roundw
          case rel => exact ⟨i + 1, _, HIX.out, by rw [W50.out], M19.out, by
            have h := HQ3.out
            rw [HDI.out, Q.itemsI, List.flatMap_cons] at h
            rw [← h]
            show s1 ++ ([32] ++ Lib.itoa u) ++ Q.itemsI (x.f1.drop (i + 1)) = _
            simp [Q.itemsI]⟩
          case measure => exact meas HIX.out W50.out
        · have qi : ¬ (i : Int) < (x.f1.length : Int) := by omega
          have HS1 := Lib.hid (show s1 = s ++ ([105, 110, 112, 117, 116, 32] ++ Lib.itoa d) ++ Q.itemsI x.f1 by
            have h := HQ3.out
            rw [List.drop_eq_nil_of_le (by omega)] at h
            rw [← h]; simp [Q.itemsI])
          clear hix hi
          go_wp2_with fail
          refine (write_mem M16.out _ (by have h1 := full_len HQ3.out HFL3.out; show s1.length + 1 ≤ _; omega)).mono ?_
          rintro e W59 ⟨rfl, M20⟩
          have M21 := Aside0.mk M20
          clear M16 M20
          go_wp2
          go_roundw
          case rel => exact ⟨d + 1, _, HDL.out, by rw [W12.out], M21.out.forget 0, by
            have h := HEQ.out
            rw [HDR.out, Q.prn, HI0.out, HS0.out, List.nil_append] at h
            rw [← h, HS1.out]
            simp⟩
          case measure => exact meas HDL.out W12.out
    · have z0 : (0 < x.f0.length) = True := eq_true (by omega)
      have z0' : decide (0 < x.f0.length) = true := decide_eq_true (by omega)
      have HS0 := Lib.hid (show Q.stealL d x.f0 = [115, 116, 101, 97, 108, 32] ++ Lib.itoa d ++ Q.itemsU x.f0 ++ [10] from if_neg h0)
      have HSL := Lib.hid (full_len HEQ.out HBIG.out)
      have HIL := Lib.hid (Q.itoa_len (d : Int) (by omega) (by have := HL.out; have := HDL.out; omega))
      clear h0
      go_wp2_with (first
        | (refine bB M1 5 #[.slice none 0 0, .slice none 0 0] 32 ?_; clear M1; intro g5 wb M2)
        | ((with_reducible refine gate_store (t := 32) (p := 5) rfl ?_); refine bR M2 32 5 0 #[.slice A0 x.f0.length c0, .slice A1 x.f1.length c1] ?_; clear M2 y0 y1; intro wc M3; have k0 := M3.out.mem.cell 0 rfl 0; have k1 := M3.out.mem.cell 0 rfl 1)
        | fail)
      refine (itoa_calls HT.out M3.out.mem.below (d : Int) (by omega) (by have := HL.out; have := HDL.out; omega)).mono ?_
      rintro e W22 ⟨rfl, hb22⟩
      have M4 := Aside0.mk (M3.out.call hb22)
      clear M3 hb22 k0 k1
      have ov : (9223372036854775807 < 6 + (Lib.itoa (d : Int)).length) = False := eq_false (by have := HIL.out; omega)
      go_wp2_with fail
      refine (write_mem M4.out _ (by have h1 := HSL.out; have h2 := HIL.out; rw [ba_size [115, 116, 101, 97, 108, 32]]; simp only [List.length_cons, List.length_nil]; omega)).mono ?_
      rintro e W24 ⟨rfl, M5⟩
      rw [ba_app [115, 116, 101, 97, 108, 32]] at M5
      have M6 := Aside0.mk M5
      have k0 := M6.out.mem.cell 0 rfl 0
      clear M4 M5 ov
      go_wp2_with fail
      go_loopw [28] (fun v28 wr => ∃ (i : Nat) (s1 : List UInt8), i ≤ x.f0.length ∧ v28 = .int .i64 i ∧ MemB 69 [] w wr [(g5, #[.slice A0 x.f0.length c0, .slice A1 x.f1.length c1], 32)] w.heap.size s1 ∧ s1 ++ Q.itemsU (x.f0.drop i) = s ++ ([115, 116, 101, 97, 108, 32] ++ Lib.itoa d) ++ Q.itemsU x.f0) (fun v28 _ => x.f0.length - (intOf v28).toNat)
      case atStart => exact ⟨0, _, Nat.zero_le _, rfl, M6.out, by rw [List.drop_zero]⟩
      rename World => w2
      obtain ⟨i, s1, hi, rfl, M7, hq⟩ := hrel
      have M8 := Aside0.mk M7
      have HQ := Lib.hid hq
      clear M6 M7 hq k0
      have HFL := Lib.hid (show (s ++ ([115, 116, 101, 97, 108, 32] ++ Lib.itoa d) ++ Q.itemsU x.f0).length ≤ 1099511627776 by
        have h1 := HEQ.out
        rw [HDR.out, Q.prn, HS0.out] at h1
        have h2 := congrArg List.length h1
        simp only [List.length_append] at h2 ⊢
        have := HBIG.out
        omega)
      by_cases hix : i < x.f0.length
      · obtain ⟨ad2, rfl, hcell⟩ := Kd.at_int HG0.out (i : Int) (by omega) (by omega)
        rw [Int.toNat_natCast] at hcell
        have yc := (M8.out.mem.below.cell (World.block_lt_of_cell? _ _ hcell)).trans hcell
        have hn : rd x.f0 (i : Int) = x.f0[i] := by unfold rd; rw [Int.toNat_natCast, List.getD_eq_getElem?_getD, List.getElem?_eq_getElem hix]; rfl
        have HRN := Lib.hid (show 0 ≤ rd x.f0 (i : Int) ∧ rd x.f0 (i : Int) < 4294967296 by rw [hn]; exact HXI.out.1 _ (List.getElem_mem hix))
        have HDI := Lib.hid (show x.f0.drop i = rd x.f0 (i : Int) :: x.f0.drop (i + 1) by rw [hn]; exact List.drop_eq_getElem_cons hix)
        have HIX := Lib.hid hix
        have qi : (i : Int) < (x.f0.length : Int) := by omega
        have W28 := Lib.hid (show wrap64 ((i : Int) + 1) = ((i + 1 : Nat) : Int) by rw [Int.natCast_add]; exact IntWalk.wrap64_in _ (by have := HXS.out.1; omega))
        clear hcell hn hix hi
        obtain ⟨u, hu⟩ : ∃ u : Nat, rd x.f0 (i : Int) = (u : Int) := ⟨(rd x.f0 (i : Int)).toNat, by have := HRN.out.1; omega⟩
        rw [hu] at yc
        have HU := Lib.hid hu
        have HUL := Lib.hid (show u < 4294967296 by have := HRN.out.2; omega)
        have hwr : IntKind.u64.wrap (u : Int) = (u : Int) := by rw [IntKind.wrap_u64]; have := HUL.out; omega
        clear hu
        have HIL2 := Lib.hid (show (Lib.decDigits u).length ≤ 21 by have := Q.itoa_len (u : Int) (by omega) (by have := HUL.out; omega); rwa [Lib.itoa_nonneg] at this)
        go_wp2_with fail
        refine (fuint_calls HT.out M8.out.mem.below u (by have := HUL.out; omega)).mono ?_
        rintro e W34 ⟨rfl, hb34⟩
        have M9 := Aside0.mk (M8.out.call hb34)
        clear M8 hb34 yc hwr
        have ov : (9223372036854775807 < 1 + (Lib.decDigits u).length) = False := eq_false (by have := HIL2.out; omega)
        go_wp2_with fail
        refine (write_mem M9.out _ (by have h1 := full_len HQ.out HFL.out; have h2 := HIL2.out; rw [ba_size [32]]; simp only [List.length_cons, List.length_nil]; omega)).mono ?_
        rintro e W36 ⟨rfl, M10⟩
        rw [ba_app [32]] at M10
        have M11 := Aside0.mk M10
        clear M9 M10 ov
        go_wp2
        go_roundw
        case rel => exact ⟨i + 1, _, HIX.out, by rw [W28.out], M11.out, by
          have h := HQ.out
          rw [HDI.out, Q.itemsU, List.flatMap_cons, HU.out, Int.toNat_natCast] at h
          rw [← h]
          show s1 ++ ([32] ++ Lib.decDigits u) ++ Q.itemsU (x.f0.drop (i + 1)) = _
          simp [Q.itemsU]⟩
        case measure => exact meas HIX.out W28.out
      · have qi : ¬ (i : Int) < (x.f0.length : Int) := by omega
        have HS1 := Lib.hid (show s1 = s ++ ([115, 116, 101, 97, 108, 32] ++ Lib.itoa d) ++ Q.itemsU x.f0 by
          have h := HQ.out
          rw [List.drop_eq_nil_of_le (by omega)] at h
          rw [← h]; simp [Q.itemsU])
        clear hix hi
        go_wp2_with fail
        refine (write_mem M8.out _ (by have h1 := full_len HQ.out HFL.out; show s1.length + 1 ≤ _; omega)).mono ?_
        rintro e W38 ⟨rfl, M9⟩
        have M3 : Aside0 (MemB 69 [] w W38 [(g5, #[.slice A0 x.f0.length c0, .slice A1 x.f1.length c1], 32)] w.heap.size (s ++ Q.stealL d x.f0)) := ⟨by
          have e : s ++ Q.stealL d x.f0 = s1 ++ [10] := by rw [HS0.out, HS1.out]; simp
          rw [e]; exact M9⟩
        have k1 := M3.out.mem.cell 0 rfl 1
        clear M8 M9
        by_cases h1 : x.f1.length = 0
        · have z1 : (0 < x.f1.length) = False := eq_false (by omega)
          have z1' : decide (0 < x.f1.length) = false := decide_eq_false (by omega)
          have HI0 := Lib.hid (show Q.inputL d x.f1 = [] from if_pos h1)
          clear h1
          skip
          go_wp2
          go_roundw
          case rel => exact ⟨d + 1, (s ++ Q.stealL d x.f0), HDL.out, by rw [W12.out], M3.out.forget 0, by
            have h := HEQ.out
            rw [HDR.out, Q.prn, HI0.out] at h
            simp only [List.nil_append, List.append_nil, List.append_assoc] at h ⊢
            exact h⟩
          case measure => exact meas HDL.out W12.out
        · have z1 : (0 < x.f1.length) = True := eq_true (by omega)
          have z1' : decide (0 < x.f1.length) = true := decide_eq_true (by omega)
          have HI0 := Lib.hid (show Q.inputL d x.f1 = [105, 110, 112, 117, 116, 32] ++ Lib.itoa d ++ Q.itemsI x.f1 ++ [10] from if_neg h1)
          have HIL3 := Lib.hid (Q.itoa_len (d : Int) (by omega) (by have := HL.out; have := HDL.out; omega))
          have HFL3 := Lib.hid (show ((s ++ Q.stealL d x.f0) ++ ([105, 110, 112, 117, 116, 32] ++ Lib.itoa d) ++ Q.itemsI x.f1).length ≤ 1099511627776 by
            have h1 := HEQ.out
            rw [HDR.out, Q.prn, HI0.out] at h1
            have h2 := congrArg List.length h1
            simp only [List.length_append] at h2 ⊢
            have := HBIG.out
            omega)
          clear h1
          skip
          go_wp2_with fail
          refine (itoa_calls HT.out M3.out.mem.below (d : Int) (by omega) (by have := HL.out; have := HDL.out; omega)).mono ?_
          rintro e W44 ⟨rfl, hb44⟩
          have M12 := Aside0.mk (M3.out.call hb44)
          clear M3 hb44 k1
          have ov3 : (9223372036854775807 < 6 + (Lib.itoa (d : Int)).length) = False := eq_false (by have := HIL3.out; omega)
          go_wp2_with fail
          refine (write_mem M12.out _ (by have h1 := HFL3.out; have h2 := HIL3.out; rw [ba_size [105, 110, 112, 117, 116, 32]]; simp only [List.length_append, List.length_cons, List.length_nil] at h1 ⊢; omega)).mono ?_
          rintro e W46 ⟨rfl, M13⟩
          rw [ba_app [105, 110, 112, 117, 116, 32]] at M13
          have M14 := Aside0.mk M13
          have k1 := M14.out.mem.cell 0 rfl 1
          clear M12 M13 ov3
          go_wp2_with fail
          go_loopw [50] (fun v50 wr => ∃ (i : Nat) (s1 : List UInt8), i ≤ x.f1.length ∧ v50 = .int .i64 i ∧ MemB 69 [] w wr [(g5, #[.slice A0 x.f0.length c0, .slice A1 x.f1.length c1], 32)] w.heap.size s1 ∧ s1 ++ Q.itemsI (x.f1.drop i) = (s ++ Q.stealL d x.f0) ++ ([105, 110, 112, 117, 116, 32] ++ Lib.itoa d) ++ Q.itemsI x.f1) (fun v50 _ => x.f1.length - (intOf v50).toNat)
          case atStart => exact ⟨0, _, Nat.zero_le _, rfl, M14.out, by rw [List.drop_zero]⟩
          rename World => w3
          obtain ⟨i, s1, hi, rfl, M15, hq⟩ := hrel
          have M16 := Aside0.mk M15
          have HQ3 := Lib.hid hq
          clear M14 M15 hq k1
          by_cases hix : i < x.f1.length
          · obtain ⟨ad2, rfl, hcell⟩ := Kd.at_int HG1.out (i : Int) (by omega) (by omega)
            rw [Int.toNat_natCast] at hcell
            have yc := (M16.out.mem.below.cell (World.block_lt_of_cell? _ _ hcell)).trans hcell
            have hn : rd x.f1 (i : Int) = x.f1[i] := by unfold rd; rw [Int.toNat_natCast, List.getD_eq_getElem?_getD, List.getElem?_eq_getElem hix]; rfl
            have HRN := Lib.hid (show -9223372036854775808 ≤ rd x.f1 (i : Int) ∧ rd x.f1 (i : Int) ≤ 9223372036854775807 by rw [hn]; exact HXI.out.2 _ (List.getElem_mem hix))
            have HDI := Lib.hid (show x.f1.drop i = rd x.f1 (i : Int) :: x.f1.drop (i + 1) by rw [hn]; exact List.drop_eq_getElem_cons hix)
            have HIX := Lib.hid hix
            have qi : (i : Int) < (x.f1.length : Int) := by omega
            have W50 := Lib.hid (show wrap64 ((i : Int) + 1) = ((i + 1 : Nat) : Int) by rw [Int.natCast_add]; exact IntWalk.wrap64_in _ (by have := HXS.out.2; omega))
            clear hcell hn hix hi
            generalize rd x.f1 (i : Int) = u at yc HRN HDI
            have HIL4 := Lib.hid (Q.itoa_len u HRN.out.1 HRN.out.2)
            go_wp2_with fail
            refine (fint_calls HT.out M16.out.mem.below u HRN.out.1 HRN.out.2).mono ?_
            rintro e W55 ⟨rfl, hb55⟩
            have M17 := Aside0.mk (M16.out.call hb55)
            clear M16 hb55 yc
            have ov : (9223372036854775807 < 1 + (Lib.itoa u).length) = False := eq_false (by have := HIL4.out; omega)
            go_wp2_with fail
            refine (write_mem M17.out _ (by have h1 := full_len HQ3.out HFL3.out; have h2 := HIL4.out; rw [ba_size [32]]; simp only [List.length_cons, List.length_nil]; omega)).mono ?_
            rintro e W57 ⟨rfl, M18⟩
            rw [ba_app [32]] at M18
            have M19 := Aside0.mk M18
            clear M17 M18 ov
            go_wp2
            go_roundw
            case rel => exact ⟨i + 1, _, HIX.out, by rw [W50.out], M19.out, by
              have h := HQ3.out
              rw [HDI.out, Q.itemsI, List.flatMap_cons] at h
              rw [← h]
              show s1 ++ ([32] ++ Lib.itoa u) ++ Q.itemsI (x.f1.drop (i + 1)) = _
              simp [Q.itemsI]⟩
            case measure => exact meas HIX.out W50.out
          · have qi : ¬ (i : Int) < (x.f1.length : Int) := by omega
            have HS1 := Lib.hid (show s1 = (s ++ Q.stealL d x.f0) ++ ([105, 110, 112, 117, 116, 32] ++ Lib.itoa d) ++ Q.itemsI x.f1 by
              have h := HQ3.out
              rw [List.drop_eq_nil_of_le (by omega)] at h
              rw [← h]; simp [Q.itemsI])
            clear hix hi
            go_wp2_with fail
            refine (write_mem M16.out _ (by have h1 := full_len HQ3.out HFL3.out; show s1.length + 1 ≤ _; omega)).mono ?_
            rintro e W59 ⟨rfl, M20⟩
            have M21 := Aside0.mk M20
            clear M16 M20
            go_wp2
            go_roundw
            case rel => exact ⟨d + 1, _, HDL.out, by rw [W12.out], M21.out.forget 0, by
              have h := HEQ.out
              rw [HDR.out, Q.prn, HI0.out] at h
              rw [← h, HS1.out]
              simp⟩
            case measure => exact meas HDL.out W12.out
  · obtain rfl : d = l.length := by omega
    have HF := Lib.hid (show s = Q.prn 0 l by
      have h := HEQ.out
      rw [List.drop_length, Q.prn, List.append_nil] at h
      exact h)
    have qd : ¬ (l.length : Int) < (l.length : Int) := by omega
    clear hdl hd
    go_wp2_with fail
    refine (Tryd.Builder_String_any w.heap.size w.heap.size s w1 M1.out.bld M1.out.mem.below.size).mono ?_
    rintro e W61 ⟨rfl, hb61⟩
    have hbw := below_two M1.out.mem.below hb61
    go_wp2
    go_ret
    exact ⟨by rw [HF.out]; rfl, hbw⟩
end Go.Proofs.YtonnlkpmfmknlaaDoor.Hof
end

section
-- laid by a program of this session (wip/gp.sh)
namespace Go.Proofs.YtonnlkpmfmknlaaDoor.GA
open Go.RowKit Go.Proofs.YtonnlkpmfmknlaaDoorW.PrintWords Go.Proofs.YtonnlkpmfmknlaaDoorW.PrintLast Go.Proofs.YtonnlkpmfmknlaaDoorW.PrintMore
attribute [local go_sem] max2_int min2_int max_two min_two max_three min_three max_four min_four   -- for this text's walks alone
set_option linter.unusedVariables false
set_option linter.unusedSimpArgs false

/-! ### rotaref19_decimal: function 45 -/
def rotaref19_decimal.l0 : Nat → Int → ByteArray → Option (ByteArray)
  | 0, _, _ => none
  | k + 1, x0, x3 => (some (([(IntKind.u64.wrap (48 + (Int.tmod x0 10))) % 256] : List Int) : List Int)).bind fun y336 => (if (strOfNums y336).size + x3.size ≤ 9223372036854775807 then (if (IntKind.u64.wrap (Int.tdiv x0 10)) = 0 then (some ((strOfNums y336) ++ x3)) else (rotaref19_decimal.l0 k (IntKind.u64.wrap (Int.tdiv x0 10)) ((strOfNums y336) ++ x3))) else (none))
def rotaref19_decimal.f (k : Nat) (a0 : Int) : Option (ByteArray) := rotaref19_decimal.l0 k a0 (⟨#[]⟩ : ByteArray)
theorem rotaref19_decimal.mono_l : ∀ k, (∀ y0 y1, LeO (rotaref19_decimal.l0 k y0 y1) (rotaref19_decimal.l0 (k + 1) y0 y1))
  | 0 => fun _ _ r h => by simp [rotaref19_decimal.l0] at h
  | k + 1 => by
    have ih0 := rotaref19_decimal.mono_l k
    · intro y0 y1
      unfold rotaref19_decimal.l0
      repeat' first
      | (with_reducible exact ih0 _ _)
      | (with_reducible exact LeO.refl _)
      | (with_reducible exact LeO.none _)
      | (with_reducible refine LeO.ite ?_ ?_)
      | (with_reducible refine LeO.bind ?_ (fun _ => ?_))
      | exact ih0 _ _
      | exact LeO.none _
      | refine LeO.ite ?_ ?_
      | refine LeO.bind ?_ (fun _ => ?_)
theorem rotaref19_decimal.mono : ∀ a0 k, LeO (rotaref19_decimal.f k a0) (rotaref19_decimal.f (k + 1) a0) := by
  intro a0 k
  have ih0 := rotaref19_decimal.mono_l k
  unfold rotaref19_decimal.f
  repeat' first
      | (with_reducible exact ih0 _ _)
      | (with_reducible exact LeO.refl _)
      | (with_reducible exact LeO.none _)
      | (with_reducible refine LeO.ite ?_ ?_)
      | (with_reducible refine LeO.bind ?_ (fun _ => ?_))
      | exact ih0 _ _
      | exact LeO.none _
      | refine LeO.ite ?_ ?_
      | refine LeO.bind ?_ (fun _ => ?_)
set_option maxHeartbeats 8000000 in
set_option maxRecDepth 100000 in
theorem rotaref19_decimal.calls (k : Nat) (a0 : Int) (r : ByteArray) (w : World) (h : rotaref19_decimal.f k a0 = some r) :
    Calls Tryd.prog 45 #[.int .u64 a0] w fun e w' => e = .returned (.string r) ∧ Below w.heap.size w w' := by
  have HB := Aside0.mk (Below.refl w.heap.size w)
  have H : (rotaref19_decimal.l0 k a0 (⟨#[]⟩ : ByteArray)) = some r := h
  clear h
  have H' := Aside0.mk H
  clear H
  go_enter Tryd.func45, Tryd.ntmps45
  go_wp2
  go_loopg [0, 3] k (fun kq v0 v3 w' => ∃ (x0_1 : Int) (x3_1 : ByteArray), v0 = .int .u64 x0_1 ∧ v3 = .string x3_1 ∧ Aside0 (rotaref19_decimal.l0 kq x0_1 x3_1 = some r) ∧ Aside0 (kq ≤ k) ∧ Aside0 (Below w.heap.size w w'))
  case atStart => exact ⟨(a0), ((⟨#[]⟩ : ByteArray)), (by first | rfl | (simp; done) | (simp [*]; done)), (by first | rfl | (simp; done) | (simp [*]; done)), H', ⟨Nat.le_refl _⟩, ⟨by repeat (first | (with_reducible first | exact HB.out | apply below_alloc | apply pw_below_drewN | apply below_drew1) | exact HB.out)⟩⟩
  case round =>
    clear H'
    obtain ⟨x0_1, x3_1, rfl, rfl, HA, HK1, HB⟩ := hrel
    cases gk with
    | zero => exact absurd HA.out (by simp [rotaref19_decimal.l0])
    | succ k1 =>
      have H := HA.out
      clear HA
      simp only [rotaref19_decimal.l0] at H
      obtain ⟨y336, hy336⟩ : ∃ y_ : List Int, y_ = (([(IntKind.u64.wrap (48 + (Int.tmod x0_1 10))) % 256] : List Int)) := ⟨_, rfl⟩
      replace H : (if (strOfNums y336).size + x3_1.size ≤ 9223372036854775807 then (if (IntKind.u64.wrap (Int.tdiv x0_1 10)) = 0 then (some ((strOfNums y336) ++ x3_1)) else (rotaref19_decimal.l0 k1 (IntKind.u64.wrap (Int.tdiv x0_1 10)) ((strOfNums y336) ++ x3_1))) else (none)) = some r := by first | (rw [hy336]; with_reducible exact H) | (have H2_ := (Option.bind_some _ _).symm.trans H; rw [hy336]; with_reducible exact H2_) | (have H2_ := (Option.bind_some _ _).symm.trans H; with_reducible exact H2_) | with_reducible exact H | (rw [hy336]; exact H) | exact H
      have Ny336 := Aside0.mk hy336
      clear hy336
      by_cases c2 : (strOfNums y336).size + x3_1.size ≤ 9223372036854775807
      · rw [if_pos c2] at H
        have c2b0 := eq_true c2
        have c2b1 : decide ((strOfNums y336).size + x3_1.size ≤ 9223372036854775807) = true := decide_eq_true c2
        try have c2b2 : (9223372036854775807 < (strOfNums y336).size + x3_1.size) = False := eq_false (Nat.not_lt.2 c2)
        by_cases c3 : (IntKind.u64.wrap (Int.tdiv x0_1 10)) = 0
        · rw [if_pos c3] at H
          have c3b0 : ((IntKind.u64.wrap (Int.tdiv x0_1 10)) == 0) = true := beq_iff_eq.mpr c3
          have c3b1 : ((IntKind.u64.wrap (Int.tdiv x0_1 10)) != 0) = false := bne_eq_false_iff_eq.mpr c3
          clear c3
          obtain rfl := Option.some.inj H
          go_wp2_with (first | ((with_reducible refine gate_dst (N := 8) rfl ?_); refine Kd.R_lit (Kd.int .u8) _ 5 ?hg (N := 8) ?hd (xs := ([(IntKind.u64.wrap (48 + (Int.tmod x0_1 10))) % 256] : List Int)) (inner := [.int .u8 ((IntKind.u64.wrap (48 + (Int.tmod x0_1 10))) % 256)]) (ok := fun _ => True) (okp := fun _ => True) ?hr ?hp (fun _ hk => hk) trivial (Below.refl _ _) (Nat.le_refl _) (by simp) ?_; (case hd => rfl); (case hg => rfl); (case hr => first | (go_simp; done) | (go_simp; rfl)); (case hp => exact (Reps.one (show Kd.M (Kd.int .u8) _ _ _ ((IntKind.u64.wrap (48 + (Int.tmod x0_1 10))) % 256) [.int .u8 ((IntKind.u64.wrap (48 + (Int.tmod x0_1 10))) % 256)] from rfl) (Reps.none _ _))); intro v337 w4 ho5 hb hg_ hnew_; clear hg_ hnew_; (first | rw [← Ny336.out] at ho5 | (simp only [Int.reduceToNat] at ho5; rw [← Ny336.out] at ho5)); have n0_ := Aside0.mk (Kd.R_lower ho5 (below_size (by repeat (first | (with_reducible first | exact HB.out | apply below_alloc | apply pw_below_drewN | apply below_drew1) | exact HB.out)))); have n1_ := Aside0.mk (below_step (by repeat (first | (with_reducible first | exact HB.out | apply below_alloc | apply pw_below_drewN | apply below_drew1) | exact HB.out)) hb); clear HB; have HO338 := n0_; have HB := n1_; clear n0_ n1_; clear hb ho5; have hcv6 := own_string (P := Tryd.prog) Tryd.underlying67 Tryd.underlying5 Tryd.underlying9 (Kd.own_of_R HO338.out)))
          go_ret
          exact ⟨by first | rfl | (simp [errW_none, errW_some] <;> rfl) | (simp [*, errW_none, errW_some] <;> rfl), by repeat (first | (with_reducible first | exact HB.out | apply below_alloc | apply pw_below_drewN | apply below_drew1) | exact HB.out)⟩
        · rw [if_neg c3] at H
          have c3b0 : ((IntKind.u64.wrap (Int.tdiv x0_1 10)) == 0) = false := beq_eq_false_iff_ne.mpr c3
          have c3b1 : ((IntKind.u64.wrap (Int.tdiv x0_1 10)) != 0) = true := bne_iff_ne.mpr c3
          have H' := Aside0.mk H
          clear H
          go_wp2_with (first | ((with_reducible refine gate_dst (N := 8) rfl ?_); refine Kd.R_lit (Kd.int .u8) _ 5 ?hg (N := 8) ?hd (xs := ([(IntKind.u64.wrap (48 + (Int.tmod x0_1 10))) % 256] : List Int)) (inner := [.int .u8 ((IntKind.u64.wrap (48 + (Int.tmod x0_1 10))) % 256)]) (ok := fun _ => True) (okp := fun _ => True) ?hr ?hp (fun _ hk => hk) trivial (Below.refl _ _) (Nat.le_refl _) (by simp) ?_; (case hd => rfl); (case hg => rfl); (case hr => first | (go_simp; done) | (go_simp; rfl)); (case hp => exact (Reps.one (show Kd.M (Kd.int .u8) _ _ _ ((IntKind.u64.wrap (48 + (Int.tmod x0_1 10))) % 256) [.int .u8 ((IntKind.u64.wrap (48 + (Int.tmod x0_1 10))) % 256)] from rfl) (Reps.none _ _))); intro v337 w7 ho8 hb hg_ hnew_; clear hg_ hnew_; (first | rw [← Ny336.out] at ho8 | (simp only [Int.reduceToNat] at ho8; rw [← Ny336.out] at ho8)); have n0_ := Aside0.mk (Kd.R_lower ho8 (below_size (by repeat (first | (with_reducible first | exact HB.out | apply below_alloc | apply pw_below_drewN | apply below_drew1) | exact HB.out)))); have n1_ := Aside0.mk (below_step (by repeat (first | (with_reducible first | exact HB.out | apply below_alloc | apply pw_below_drewN | apply below_drew1) | exact HB.out)) hb); clear HB; have HO338 := n0_; have HB := n1_; clear n0_ n1_; clear hb ho8; have hcv9 := own_string (P := Tryd.prog) Tryd.underlying67 Tryd.underlying5 Tryd.underlying9 (Kd.own_of_R HO338.out)))
          go_roundg k1
          case measure => have := HK1.out; omega
          case rel => exact ⟨(IntKind.u64.wrap (Int.tdiv x0_1 10)), ((strOfNums y336) ++ x3_1), (by first | rfl | (simp; done) | (simp [*]; done)), (by first | rfl | (simp; done) | (simp [*]; done)), H', ⟨by have := HK1.out; omega⟩, ⟨by repeat (first | (with_reducible first | exact HB.out | apply below_alloc | apply pw_below_drewN | apply below_drew1) | exact HB.out)⟩⟩
      · rw [if_neg c2] at H
        exact absurd H (by simp)

end Go.Proofs.YtonnlkpmfmknlaaDoor.GA
end

section
-- laid by a program of this session (wip/gp.sh)
namespace Go.Proofs.YtonnlkpmfmknlaaDoor.GA
open Go.RowKit Go.Proofs.YtonnlkpmfmknlaaDoorW.PrintWords Go.Proofs.YtonnlkpmfmknlaaDoorW.PrintLast Go.Proofs.YtonnlkpmfmknlaaDoorW.PrintMore
attribute [local go_sem] max2_int min2_int max_two min_two max_three min_three max_four min_four   -- for this text's walks alone
set_option linter.unusedVariables false
set_option linter.unusedSimpArgs false

/-! ### rotaref19_Number: function 46 -/
def rotaref19_Number.f (k : Nat) (a0 : Int) : Option (ByteArray) := if a0 < 0 then ((rotaref19_decimal.f k (IntKind.u64.wrap (-(IntKind.u64.wrap (a0))))).bind fun t339 => (if 1 + t339.size ≤ 9223372036854775807 then (some ((⟨#[45]⟩ : ByteArray) ++ t339)) else (none))) else ((rotaref19_decimal.f k (IntKind.u64.wrap (a0))).bind fun t340 => (some t340))
theorem rotaref19_Number.mono : ∀ a0 k, LeO (rotaref19_Number.f k a0) (rotaref19_Number.f (k + 1) a0) := by
  intro a0 k
  unfold rotaref19_Number.f
  repeat' first
      | (with_reducible exact rotaref19_decimal.mono _ _)
      | (with_reducible exact LeO.refl _)
      | (with_reducible exact LeO.none _)
      | (with_reducible refine LeO.ite ?_ ?_)
      | (with_reducible refine LeO.bind ?_ (fun _ => ?_))
      | exact rotaref19_decimal.mono _ _
      | exact LeO.none _
      | refine LeO.ite ?_ ?_
      | refine LeO.bind ?_ (fun _ => ?_)
set_option maxHeartbeats 8000000 in
set_option maxRecDepth 100000 in
theorem rotaref19_Number.calls (k : Nat) (a0 : Int) (r : ByteArray) (w : World) (h : rotaref19_Number.f k a0 = some r) :
    Calls Tryd.prog 46 #[.int .i64 a0] w fun e w' => e = .returned (.string r) ∧ Below w.heap.size w w' := by
  have HB := Aside0.mk (Below.refl w.heap.size w)
  have H : (if a0 < 0 then ((rotaref19_decimal.f k (IntKind.u64.wrap (-(IntKind.u64.wrap (a0))))).bind fun t339 => (if 1 + t339.size ≤ 9223372036854775807 then (some ((⟨#[45]⟩ : ByteArray) ++ t339)) else (none))) else ((rotaref19_decimal.f k (IntKind.u64.wrap (a0))).bind fun t340 => (some t340))) = some r := h
  clear h
  by_cases c2 : a0 < 0
  · rw [if_pos c2] at H
    have c2b0 : decide (a0 < 0) = true := decide_eq_true c2
    clear c2
    replace H := Option.bind_eq_some_iff.mp H
    obtain ⟨t339, A30, H⟩ := H
    replace H : (if 1 + t339.size ≤ 9223372036854775807 then (some ((⟨#[45]⟩ : ByteArray) ++ t339)) else (none)) = some r := H
    have A3 := Aside0.mk A30
    clear A30
    by_cases c4 : 1 + t339.size ≤ 9223372036854775807
    · rw [if_pos c4] at H
      have c4b0 := eq_true c4
      have c4b1 : decide (1 + t339.size ≤ 9223372036854775807) = true := decide_eq_true c4
      try have c4b2 : (9223372036854775807 < 1 + t339.size) = False := eq_false (Nat.not_lt.2 c4)
      obtain rfl := Option.some.inj H
      go_enter Tryd.func46, Tryd.ntmps46
      go_wp2_with (first | ((with_reducible refine gate_callee (f := 45) rfl ?_); refine goesL_ (some 8) rfl rfl Tryd.func45 (by kernel_rfl) rfl #[.int .u64 (IntKind.u64.wrap (-(IntKind.u64.wrap (a0))))] rfl (by (try simp only [List.map_toArray, List.map_cons, List.map_nil]); first | done | rfl | (simp only [List.length_drop, List.length_take]; rfl)) ?_; (with_reducible refine (rotaref19_decimal.calls k (IntKind.u64.wrap (-(IntKind.u64.wrap (a0)))) t339 _ A3.out).mono ?_); rintro e w5 ⟨rfl, hb⟩; refine ⟨_, rfl, ?_⟩; have n0_ := Aside0.mk (below_step (by repeat (first | (with_reducible first | exact HB.out | apply below_alloc | apply pw_below_drewN | apply below_drew1) | exact HB.out)) hb); clear HB; have HB := n0_; clear n0_; (try clear hb); (try clear hb2); (try clear hk); (try clear hi)))
      go_ret
      exact ⟨by first | rfl | (simp [errW_none, errW_some] <;> rfl) | (simp [*, errW_none, errW_some] <;> rfl), by repeat (first | (with_reducible first | exact HB.out | apply below_alloc | apply pw_below_drewN | apply below_drew1) | exact HB.out)⟩
    · rw [if_neg c4] at H
      exact absurd H (by simp)
  · rw [if_neg c2] at H
    have c2b0 : decide (a0 < 0) = false := decide_eq_false c2
    clear c2
    replace H := Option.bind_eq_some_iff.mp H
    obtain ⟨t340, A60, H⟩ := H
    replace H : (some t340) = some r := H
    have A6 := Aside0.mk A60
    clear A60
    obtain rfl := Option.some.inj H
    go_enter Tryd.func46, Tryd.ntmps46
    go_wp2_with (first | ((with_reducible refine gate_callee (f := 45) rfl ?_); refine goesL_ (some 12) rfl rfl Tryd.func45 (by kernel_rfl) rfl #[.int .u64 (IntKind.u64.wrap (a0))] rfl (by (try simp only [List.map_toArray, List.map_cons, List.map_nil]); first | done | rfl | (simp only [List.length_drop, List.length_take]; rfl)) ?_; (with_reducible refine (rotaref19_decimal.calls k (IntKind.u64.wrap (a0)) t340 _ A6.out).mono ?_); rintro e w7 ⟨rfl, hb⟩; refine ⟨_, rfl, ?_⟩; have n0_ := Aside0.mk (below_step (by repeat (first | (with_reducible first | exact HB.out | apply below_alloc | apply pw_below_drewN | apply below_drew1) | exact HB.out)) hb); clear HB; have HB := n0_; clear n0_; (try clear hb); (try clear hb2); (try clear hk); (try clear hi)))
    go_ret
    exact ⟨by first | rfl | (simp [errW_none, errW_some] <;> rfl) | (simp [*, errW_none, errW_some] <;> rfl), by repeat (first | (with_reducible first | exact HB.out | apply below_alloc | apply pw_below_drewN | apply below_drew1) | exact HB.out)⟩

end Go.Proofs.YtonnlkpmfmknlaaDoor.GA
end
