import Derived.Test.YtonnlkpmfmknlaaDoorMBk6
import Derived.Lib.Hide
import Derived.WalkKit
import Derived.Test.YtonnlkpmfmknlaaDoorMB
import Derived.Test.YtonnlkpmfmknlaaDoorMBk3
import Derived.Lib.LaidTab
import Derived.Test.YtonnlkpmfmknlaaDoorCards
import Derived.Test.YtonnlkpmfmknlaaDoorTie
import Derived.ProofKit
import Derived.OpenShut
import Derived.ShutString
import Derived.ChangeOld
import Derived.Below
import Derived.SizedLaws
import Derived.Lib.SmallJoins
import Derived.Deep.DeepHandedRow
import Derived.Deep.DeepLaidRun
section
/-
  ScriptBack, walked: what Print tells is read as the choices.
-/
set_option linter.unusedVariables false
set_option linter.unusedSimpArgs false
namespace Go.Proofs.YtonnlkpmfmknlaaDoor.Hof
open Go.RowKit Go.Shelf Go.Proofs.YtonnlkpmfmknlaaDoorW.PrintWords Go.Proofs.YtonnlkpmfmknlaaDoorW.PrintLast Go.Proofs.YtonnlkpmfmknlaaDoorW.PrintMore Hctx GA
set_option maxHeartbeats 4000000 in
set_option maxRecDepth 100000 in
theorem parse_long (d : Int) (h1 : 1 ≤ d) (h2 : d ≤ 16) (s : ByteArray) (h3 : 262144 < s.size) (w : World) :
    Calls Tryd.prog 10 #[.int .i64 d, .string s] w (Parsed ([], 2, 0) w) := by
  have e1 : decide (d < 1) = false := decide_eq_false (by omega)
  have e2 : decide (d > 16) = false := decide_eq_false (by omega)
  have e3 : decide (16 < d) = false := decide_eq_false (by omega)
  have e4 : decide ((s.size : Int) > 262144) = true := decide_eq_true (by omega)
  clear h1 h2 h3
  go_enter Tryd.func10, Tryd.ntmps10
  go_wp2
  go_ret3
  exact parsed_nil 2 0 (Below.refl _ _)
/-- The choices that are taken where there are none that serve. -/
def dflt : List S32 := [⟨[], [4]⟩]
theorem dflt_in : Q.InR dflt := fun x hx => by
  rw [dflt, List.mem_singleton] at hx; subst hx
  exact ⟨(fun n hn => by cases hn), (fun n hn => by rw [List.mem_singleton] at hn; subst hn; omega)⟩
theorem below_drawn0 {w w' : World} (h : Drawn0 w w') : Below w.heap.size w w' := h.below
set_option maxHeartbeats 8000000 in
set_option maxRecDepth 100000 in
theorem law7_calls (A : Option Addr) (c : Nat) (l : List S32) (w : World) (S0 : Std w) (hT : TB w) (hl : k32.C w A l.length l) (hc : l.length ≤ c) (hin : Q.InR l) (hs : Q.Small l) (hx : l.length < 2932031007402) :
    Calls Tryd.prog 7 #[.slice A l.length c] w fun e W' => e = .returned (.bool true) ∧ Below w.heap.size w W' := by
  obtain ⟨K, hK⟩ : ∃ K : Nat, 5000000000000000000 ≤ K := ⟨_, Nat.le_refl _⟩
  have FD := Lib.hid (Q.fine_of K hK dflt_in (by decide))
  have SD : RowKit.Hid (rotaref19_Same.f K dflt dflt = some true) := Lib.hid (by
    unfold rotaref19_Same.f
    rw [if_pos rfl]
    refine Q.same_l dflt (by decide) (fun i => ?_) 10 (fun i => ?_) dflt.length 0 (by decide) K (by have : dflt.length = 1 := rfl; omega)
    all_goals
      unfold rd_T32 dflt
      rw [List.getD_eq_getElem?_getD]
      cases i.toNat with
      | zero => decide
      | succ k => simp only [List.getElem?_cons_succ, List.getElem?_nil, Option.getD_none]; decide)
  have PD := Lib.hid (Q.parse_print dflt dflt_in (by decide) (by decide))
  have HT := Lib.hid hT
  have S := Lib.hid S0
  have HL := Lib.hid hl
  have HC := Lib.hid hc
  by_cases a1 : l.length < 1
  · have n1 : l.length = 0 := by omega
    have b1 : ((l.length : Int) < 1) = True := eq_true (by omega)
    have b2 : decide ((l.length : Int) < 1) = true := decide_eq_true (by omega)
    have b3 : (l.length = 0) = True := eq_true n1
    clear hT S0 hl hc hin hs hx hK a1
    go_enter Tryd.func7, Tryd.ntmps7
    go_wp2_with (first
      | ((with_reducible refine gate_dst (N := 19) rfl ?_); refine Kd.R_lit (Kd.int .i64) (w0 := w) (w).heap.size 2 ?hg (N := 19) ?hd (xs := ([4] : List Int)) (inner := [.int .i64 4]) (ok := fun _ => True) (okp := fun _ => True) ?hr ?hp (fun _ hk => hk) trivial (Below.refl _ _) (Nat.le_refl _) (by simp) ?_; (case hd => rfl); (case hg => rfl); (case hr => first | (go_simp; done) | (go_simp; rfl)); (case hp => exact Kd.reps_scalar [4]); intro v19 w19 HR19 HB19 hg19 _; obtain ⟨A19, c19, rfl⟩ := Kd.R_slice HR19; have R19 := Aside0.mk HR19; have B19 := Aside0.mk HB19; clear HR19 HB19 hg19)
      | ((with_reducible refine gate_dst (N := 21) rfl ?_); refine Kd.R_lit k32 (w0 := w) (w).heap.size 32 ?hg (N := 21) ?hd (xs := dflt) (inner := [.slice none 0 0, .slice A19 1 c19]) (ok := fun _ => True) (okp := fun _ => True) ?hr ?hp (fun _ hk => hk) trivial B19.out B19.out.size (by decide) ?_; (case hd => rfl); (case hg => rfl); (case hr => first | (go_simp; done) | (go_simp; rfl)); (case hp => exact Reps.c2 (k32_mkM w19 _ _ ⟨[], [4]⟩ (Kd.R_nil _ _ _ _ _) (R19.out)) (Reps.none _ _)); intro v21 w21 HR21 HB21 hg21 _; obtain ⟨A21, c21, rfl, hc21, hC21⟩ := Kd.R_reads HR21; have C21 := Aside0.mk (And.intro hc21 hC21); have B21 := Aside0.mk HB21; clear HR21 HB21 hg21 hc21 hC21)
      | fail)
    have BX := Lib.hid (below_step (Below.refl _ _) B21.out)
    have HX := Lib.hid C21.out
    clear B19 B21 C21 R19
    refine (rotalaw19_twin.calls K A21 c21 dflt dflt w21 HX.out.2 HX.out.1 FD.out.twin).mono ?_
    rintro e w23 ⟨v23, rfl, hS, hb⟩
    obtain ⟨A23, c23, rfl, hc23, hC23⟩ := Kd.R_reads (Kd.S_R hS)
    have H23 := Lib.hid (And.intro hc23 hC23)
    have B23 := Lib.hid (below_step BX.out hb)
    have HY := Lib.hid (Kd.C_below HX.out.2 hb)
    have HCX := Lib.hid HX.out.1
    clear hS hc23 hC23 hb BX HX
    go_wp2_with fail
    refine (print_calls A23 c23 dflt w23 H23.out.2 H23.out.1 (tb_below HT.out B23.out) FD.out.inr FD.out.len FD.out.many FD.out.each).mono ?_
    rintro e w24 ⟨rfl, hb⟩
    have B24 := Lib.hid (below_step B23.out hb)
    have HZ := Lib.hid (Kd.C_below HY.out hb)
    clear hb B23 H23 HY
    have HP := Lib.hid PD.out
    generalize htx : Q.prn 0 dflt = txt at HP ⊢
    clear htx
    by_cases hbig : 262144 < txt.length
    · go_wp2_with fail
      refine (parse_long 1 (by omega) (by omega) (Q.sB txt) (by rw [Q.sB_size]; exact hbig) w24).mono ?_
      rintro e w29 ⟨v29, rfl, hR, hb⟩
      have B29 := Lib.hid (below_step B24.out hb)
      have q1 : ((txt.length : Int) > 262144) = True := eq_true (by omega)
      have q2 : decide ((txt.length : Int) > 262144) = true := decide_eq_true (by omega)
      have q3 : (262144 < txt.length) = True := eq_true hbig
      clear hR hb B24
      go_wp2_with fail
      refine (lives_calls w29 (S.out.below B29.out)).mono ?_
      rintro e w35 ⟨rfl, hb⟩
      have B35 := Lib.hid (below_step B29.out hb)
      clear hb B29
      go_wp2_with fail
      go_ret
      exact ⟨rfl, B35.out⟩
    · go_wp2_with fail
      refine (parse_calls 1 (by unfold I64; omega) (Q.sB txt) (by rw [Q.sB_size]; omega) w24 (S.out.below B24.out)).mono ?_
      have HP2 := HP.out
      rw [if_neg hbig] at HP2
      rintro e w29 ⟨v29, rfl, hR, hb⟩
      have B29 := Lib.hid (below_step B24.out hb)
      have HZ2 := Lib.hid (Kd.C_below HZ.out hb)
      rw [show parse19 1 (Q.sB txt) = (Q.flat dflt, 0, 0) from HP2] at hR ⊢
      rw [Q.pairs_flat] at hR
      obtain ⟨A29, c29, rfl, hc29, hC29⟩ := Kd.R_reads hR
      have H29 := Lib.hid (And.intro hc29 hC29)
      clear hR hb B24 hc29 hC29 HP2 HP hbig HZ
      go_wp2_with fail
      refine (lives_calls w29 (S.out.below B29.out)).mono ?_
      rintro e w49 ⟨rfl, hb⟩
      have B49 := Lib.hid (below_step B29.out hb)
      have H49 := Lib.hid (Kd.C_below H29.out.2 hb)
      have HZ3 := Lib.hid (Kd.C_below HZ2.out hb)
      clear hb B29
      go_wp2_with fail
      refine (rotaref19_Same.calls K A29 c29 dflt A21 c21 dflt true w49 H49.out H29.out.1 HZ3.out HCX.out SD.out).mono ?_
      rintro e w53 ⟨rfl, hb⟩
      have B53 := Lib.hid (below_step B49.out hb)
      clear hb B49
      go_wp2_with fail
      go_ret
      exact ⟨rfl, B53.out⟩
  by_cases a2 : l.length > 16
  · have b1 : ((l.length : Int) < 1) = False := eq_false (by omega)
    have b2 : decide ((l.length : Int) < 1) = false := decide_eq_false (by omega)
    have b3 : ¬ l.length = 0 := by omega
    have b4 : ((l.length : Int) > 16) = True := eq_true (by omega)
    have b5 : decide ((l.length : Int) > 16) = true := decide_eq_true (by omega)
    have b6 : 16 < l.length := a2
    clear hT S0 hl hc hin hs hx hK a1 a2
    go_enter Tryd.func7, Tryd.ntmps7
    go_wp2_with (first
      | ((with_reducible refine gate_dst (N := 19) rfl ?_); refine Kd.R_lit (Kd.int .i64) (w0 := w) (w).heap.size 2 ?hg (N := 19) ?hd (xs := ([4] : List Int)) (inner := [.int .i64 4]) (ok := fun _ => True) (okp := fun _ => True) ?hr ?hp (fun _ hk => hk) trivial (Below.refl _ _) (Nat.le_refl _) (by simp) ?_; (case hd => rfl); (case hg => rfl); (case hr => first | (go_simp; done) | (go_simp; rfl)); (case hp => exact Kd.reps_scalar [4]); intro v19 w19 HR19 HB19 hg19 _; obtain ⟨A19, c19, rfl⟩ := Kd.R_slice HR19; have R19 := Aside0.mk HR19; have B19 := Aside0.mk HB19; clear HR19 HB19 hg19)
      | ((with_reducible refine gate_dst (N := 21) rfl ?_); refine Kd.R_lit k32 (w0 := w) (w).heap.size 32 ?hg (N := 21) ?hd (xs := dflt) (inner := [.slice none 0 0, .slice A19 1 c19]) (ok := fun _ => True) (okp := fun _ => True) ?hr ?hp (fun _ hk => hk) trivial B19.out B19.out.size (by decide) ?_; (case hd => rfl); (case hg => rfl); (case hr => first | (go_simp; done) | (go_simp; rfl)); (case hp => exact Reps.c2 (k32_mkM w19 _ _ ⟨[], [4]⟩ (Kd.R_nil _ _ _ _ _) (R19.out)) (Reps.none _ _)); intro v21 w21 HR21 HB21 hg21 _; obtain ⟨A21, c21, rfl, hc21, hC21⟩ := Kd.R_reads HR21; have C21 := Aside0.mk (And.intro hc21 hC21); have B21 := Aside0.mk HB21; clear HR21 HB21 hg21 hc21 hC21)
      | fail)
    have BX := Lib.hid (below_step (Below.refl _ _) B21.out)
    have HX := Lib.hid C21.out
    clear B19 B21 C21 R19
    refine (rotalaw19_twin.calls K A21 c21 dflt dflt w21 HX.out.2 HX.out.1 FD.out.twin).mono ?_
    rintro e w23 ⟨v23, rfl, hS, hb⟩
    obtain ⟨A23, c23, rfl, hc23, hC23⟩ := Kd.R_reads (Kd.S_R hS)
    have H23 := Lib.hid (And.intro hc23 hC23)
    have B23 := Lib.hid (below_step BX.out hb)
    have HY := Lib.hid (Kd.C_below HX.out.2 hb)
    have HCX := Lib.hid HX.out.1
    clear hS hc23 hC23 hb BX HX
    go_wp2_with fail
    refine (print_calls A23 c23 dflt w23 H23.out.2 H23.out.1 (tb_below HT.out B23.out) FD.out.inr FD.out.len FD.out.many FD.out.each).mono ?_
    rintro e w24 ⟨rfl, hb⟩
    have B24 := Lib.hid (below_step B23.out hb)
    have HZ := Lib.hid (Kd.C_below HY.out hb)
    clear hb B23 H23 HY
    have HP := Lib.hid PD.out
    generalize htx : Q.prn 0 dflt = txt at HP ⊢
    clear htx
    by_cases hbig : 262144 < txt.length
    · go_wp2_with fail
      refine (parse_long 1 (by omega) (by omega) (Q.sB txt) (by rw [Q.sB_size]; exact hbig) w24).mono ?_
      rintro e w29 ⟨v29, rfl, hR, hb⟩
      have B29 := Lib.hid (below_step B24.out hb)
      have q1 : ((txt.length : Int) > 262144) = True := eq_true (by omega)
      have q2 : decide ((txt.length : Int) > 262144) = true := decide_eq_true (by omega)
      have q3 : (262144 < txt.length) = True := eq_true hbig
      clear hR hb B24
      go_wp2_with fail
      refine (lives_calls w29 (S.out.below B29.out)).mono ?_
      rintro e w35 ⟨rfl, hb⟩
      have B35 := Lib.hid (below_step B29.out hb)
      clear hb B29
      go_wp2_with fail
      go_ret
      exact ⟨rfl, B35.out⟩
    · go_wp2_with fail
      refine (parse_calls 1 (by unfold I64; omega) (Q.sB txt) (by rw [Q.sB_size]; omega) w24 (S.out.below B24.out)).mono ?_
      have HP2 := HP.out
      rw [if_neg hbig] at HP2
      rintro e w29 ⟨v29, rfl, hR, hb⟩
      have B29 := Lib.hid (below_step B24.out hb)
      have HZ2 := Lib.hid (Kd.C_below HZ.out hb)
      rw [show parse19 1 (Q.sB txt) = (Q.flat dflt, 0, 0) from HP2] at hR ⊢
      rw [Q.pairs_flat] at hR
      obtain ⟨A29, c29, rfl, hc29, hC29⟩ := Kd.R_reads hR
      have H29 := Lib.hid (And.intro hc29 hC29)
      clear hR hb B24 hc29 hC29 HP2 HP hbig HZ
      go_wp2_with fail
      refine (lives_calls w29 (S.out.below B29.out)).mono ?_
      rintro e w49 ⟨rfl, hb⟩
      have B49 := Lib.hid (below_step B29.out hb)
      have H49 := Lib.hid (Kd.C_below H29.out.2 hb)
      have HZ3 := Lib.hid (Kd.C_below HZ2.out hb)
      clear hb B29
      go_wp2_with fail
      refine (rotaref19_Same.calls K A29 c29 dflt A21 c21 dflt true w49 H49.out H29.out.1 HZ3.out HCX.out SD.out).mono ?_
      rintro e w53 ⟨rfl, hb⟩
      have B53 := Lib.hid (below_step B49.out hb)
      clear hb B49
      go_wp2_with fail
      go_ret
      exact ⟨rfl, B53.out⟩
  have b1 : ((l.length : Int) < 1) = False := eq_false (by omega)
  have b2 : decide ((l.length : Int) < 1) = false := decide_eq_false (by omega)
  have b3 : ¬ l.length = 0 := by omega
  have b4 : ((l.length : Int) > 16) = False := eq_false (by omega)
  have b5 : decide ((l.length : Int) > 16) = false := decide_eq_false (by omega)
  have b6 : ¬ 16 < l.length := by omega
  obtain ⟨r, hr, hw⟩ := Q.longF l hs hx 100000000000000 (by omega)
  have HR := Lib.hid hr
  cases r with
  | true =>
    clear hT S0 hl hc hin hs hx hr hw hK a1 a2
    go_enter Tryd.func7, Tryd.ntmps7
    go_wp2_with fail
    refine (rotalaw19_long.calls 100000000000000 A c l true w HL.out HC.out HR.out).mono ?_
    rintro e w1 ⟨rfl, hd⟩
    have B1 := Lib.hid (below_drawn0 hd)
    clear hd
    go_wp2_with (first
      | ((with_reducible refine gate_dst (N := 19) rfl ?_); refine Kd.R_lit (Kd.int .i64) (w0 := w1) (w1).heap.size 2 ?hg (N := 19) ?hd (xs := ([4] : List Int)) (inner := [.int .i64 4]) (ok := fun _ => True) (okp := fun _ => True) ?hr ?hp (fun _ hk => hk) trivial (Below.refl _ _) (Nat.le_refl _) (by simp) ?_; (case hd => rfl); (case hg => rfl); (case hr => first | (go_simp; done) | (go_simp; rfl)); (case hp => exact Kd.reps_scalar [4]); intro v19 w19 HR19 HB19 hg19 _; obtain ⟨A19, c19, rfl⟩ := Kd.R_slice HR19; have R19 := Aside0.mk HR19; have B19 := Aside0.mk HB19; clear HR19 HB19 hg19)
      | ((with_reducible refine gate_dst (N := 21) rfl ?_); refine Kd.R_lit k32 (w0 := w1) (w1).heap.size 32 ?hg (N := 21) ?hd (xs := dflt) (inner := [.slice none 0 0, .slice A19 1 c19]) (ok := fun _ => True) (okp := fun _ => True) ?hr ?hp (fun _ hk => hk) trivial B19.out B19.out.size (by decide) ?_; (case hd => rfl); (case hg => rfl); (case hr => first | (go_simp; done) | (go_simp; rfl)); (case hp => exact Reps.c2 (k32_mkM w19 _ _ ⟨[], [4]⟩ (Kd.R_nil _ _ _ _ _) (R19.out)) (Reps.none _ _)); intro v21 w21 HR21 HB21 hg21 _; obtain ⟨A21, c21, rfl, hc21, hC21⟩ := Kd.R_reads HR21; have C21 := Aside0.mk (And.intro hc21 hC21); have B21 := Aside0.mk HB21; clear HR21 HB21 hg21 hc21 hC21)
      | fail)
    have BX := Lib.hid (below_step B1.out B21.out)
    have HX := Lib.hid C21.out
    clear B19 B21 C21 R19
    refine (rotalaw19_twin.calls K A21 c21 dflt dflt w21 HX.out.2 HX.out.1 FD.out.twin).mono ?_
    rintro e w23 ⟨v23, rfl, hS, hb⟩
    obtain ⟨A23, c23, rfl, hc23, hC23⟩ := Kd.R_reads (Kd.S_R hS)
    have H23 := Lib.hid (And.intro hc23 hC23)
    have B23 := Lib.hid (below_step BX.out hb)
    have HY := Lib.hid (Kd.C_below HX.out.2 hb)
    have HCX := Lib.hid HX.out.1
    clear hS hc23 hC23 hb BX HX
    go_wp2_with fail
    refine (print_calls A23 c23 dflt w23 H23.out.2 H23.out.1 (tb_below HT.out B23.out) FD.out.inr FD.out.len FD.out.many FD.out.each).mono ?_
    rintro e w24 ⟨rfl, hb⟩
    have B24 := Lib.hid (below_step B23.out hb)
    have HZ := Lib.hid (Kd.C_below HY.out hb)
    clear hb B23 H23 HY
    have HP := Lib.hid PD.out
    generalize htx : Q.prn 0 dflt = txt at HP ⊢
    clear htx
    by_cases hbig : 262144 < txt.length
    · go_wp2_with fail
      refine (parse_long 1 (by omega) (by omega) (Q.sB txt) (by rw [Q.sB_size]; exact hbig) w24).mono ?_
      rintro e w29 ⟨v29, rfl, hR, hb⟩
      have B29 := Lib.hid (below_step B24.out hb)
      have q1 : ((txt.length : Int) > 262144) = True := eq_true (by omega)
      have q2 : decide ((txt.length : Int) > 262144) = true := decide_eq_true (by omega)
      have q3 : (262144 < txt.length) = True := eq_true hbig
      clear hR hb B24
      go_wp2_with fail
      refine (lives_calls w29 (S.out.below B29.out)).mono ?_
      rintro e w35 ⟨rfl, hb⟩
      have B35 := Lib.hid (below_step B29.out hb)
      clear hb B29
      go_wp2_with fail
      go_ret
      exact ⟨rfl, B35.out⟩
    · go_wp2_with fail
      refine (parse_calls 1 (by unfold I64; omega) (Q.sB txt) (by rw [Q.sB_size]; omega) w24 (S.out.below B24.out)).mono ?_
      have HP2 := HP.out
      rw [if_neg hbig] at HP2
      rintro e w29 ⟨v29, rfl, hR, hb⟩
      have B29 := Lib.hid (below_step B24.out hb)
      have HZ2 := Lib.hid (Kd.C_below HZ.out hb)
      rw [show parse19 1 (Q.sB txt) = (Q.flat dflt, 0, 0) from HP2] at hR ⊢
      rw [Q.pairs_flat] at hR
      obtain ⟨A29, c29, rfl, hc29, hC29⟩ := Kd.R_reads hR
      have H29 := Lib.hid (And.intro hc29 hC29)
      clear hR hb B24 hc29 hC29 HP2 HP hbig HZ
      go_wp2_with fail
      refine (lives_calls w29 (S.out.below B29.out)).mono ?_
      rintro e w49 ⟨rfl, hb⟩
      have B49 := Lib.hid (below_step B29.out hb)
      have H49 := Lib.hid (Kd.C_below H29.out.2 hb)
      have HZ3 := Lib.hid (Kd.C_below HZ2.out hb)
      clear hb B29
      go_wp2_with fail
      refine (rotaref19_Same.calls K A29 c29 dflt A21 c21 dflt true w49 H49.out H29.out.1 HZ3.out HCX.out SD.out).mono ?_
      rintro e w53 ⟨rfl, hb⟩
      have B53 := Lib.hid (below_step B49.out hb)
      clear hb B49
      go_wp2_with fail
      go_ret
      exact ⟨rfl, B53.out⟩
  | false =>
    have F := Lib.hid (Q.fine_of K hK hin (hw rfl))
    have SL : RowKit.Hid (rotaref19_Same.f K l l = some true) := Lib.hid (by
      unfold rotaref19_Same.f
      rw [if_pos rfl]
      exact Q.same_l l (by omega) hs 52776558133260 (fun i => by have := hs i; omega) l.length 0 (by omega) K (by omega))
    have PL := Lib.hid (Q.parse_print l hin (by omega) (by omega))
    have L1 := Lib.hid (show 1 ≤ l.length by omega)
    have L2 := Lib.hid (show l.length ≤ 16 by omega)
    clear hT S0 hl hc hin hs hx hr hw hK a1 a2
    go_enter Tryd.func7, Tryd.ntmps7
    go_wp2_with fail
    refine (rotalaw19_long.calls 100000000000000 A c l false w HL.out HC.out HR.out).mono ?_
    rintro e w1 ⟨rfl, hd⟩
    have BX := Lib.hid (below_drawn0 hd)
    have HX := Lib.hid (And.intro HC.out (Kd.C_below HL.out BX.out))
    clear hd
    go_wp2_with fail
    refine (rotalaw19_twin.calls K A c l l w1 HX.out.2 HX.out.1 F.out.twin).mono ?_
    rintro e w23 ⟨v23, rfl, hS, hb⟩
    obtain ⟨A23, c23, rfl, hc23, hC23⟩ := Kd.R_reads (Kd.S_R hS)
    have H23 := Lib.hid (And.intro hc23 hC23)
    have B23 := Lib.hid (below_step BX.out hb)
    have HY := Lib.hid (Kd.C_below HX.out.2 hb)
    have HCX := Lib.hid HX.out.1
    clear hS hc23 hC23 hb BX HX
    go_wp2_with fail
    refine (print_calls A23 c23 l w23 H23.out.2 H23.out.1 (tb_below HT.out B23.out) F.out.inr F.out.len F.out.many F.out.each).mono ?_
    rintro e w24 ⟨rfl, hb⟩
    have B24 := Lib.hid (below_step B23.out hb)
    have HZ := Lib.hid (Kd.C_below HY.out hb)
    clear hb B23 H23 HY
    have HP := Lib.hid PL.out
    generalize htx : Q.prn 0 l = txt at HP ⊢
    clear htx
    by_cases hbig : 262144 < txt.length
    · go_wp2_with fail
      refine (parse_long (l.length : Int) (by have := L1.out; omega) (by have := L2.out; omega) (Q.sB txt) (by rw [Q.sB_size]; exact hbig) w24).mono ?_
      rintro e w29 ⟨v29, rfl, hR, hb⟩
      have B29 := Lib.hid (below_step B24.out hb)
      have q1 : ((txt.length : Int) > 262144) = True := eq_true (by omega)
      have q2 : decide ((txt.length : Int) > 262144) = true := decide_eq_true (by omega)
      have q3 : (262144 < txt.length) = True := eq_true hbig
      clear hR hb B24
      go_wp2_with fail
      refine (lives_calls w29 (S.out.below B29.out)).mono ?_
      rintro e w35 ⟨rfl, hb⟩
      have B35 := Lib.hid (below_step B29.out hb)
      clear hb B29
      go_wp2_with fail
      go_ret
      exact ⟨rfl, B35.out⟩
    · go_wp2_with fail
      refine (parse_calls (l.length : Int) (by have := L2.out; unfold I64; omega) (Q.sB txt) (by rw [Q.sB_size]; omega) w24 (S.out.below B24.out)).mono ?_
      have HP2 := HP.out
      rw [if_neg hbig] at HP2
      rintro e w29 ⟨v29, rfl, hR, hb⟩
      have B29 := Lib.hid (below_step B24.out hb)
      have HZ2 := Lib.hid (Kd.C_below HZ.out hb)
      rw [show parse19 (l.length : Int) (Q.sB txt) = (Q.flat l, 0, 0) from HP2] at hR ⊢
      rw [Q.pairs_flat] at hR
      obtain ⟨A29, c29, rfl, hc29, hC29⟩ := Kd.R_reads hR
      have H29 := Lib.hid (And.intro hc29 hC29)
      clear hR hb B24 hc29 hC29 HP2 HP hbig HZ
      go_wp2_with fail
      refine (lives_calls w29 (S.out.below B29.out)).mono ?_
      rintro e w49 ⟨rfl, hb⟩
      have B49 := Lib.hid (below_step B29.out hb)
      have H49 := Lib.hid (Kd.C_below H29.out.2 hb)
      have HZ3 := Lib.hid (Kd.C_below HZ2.out hb)
      clear hb B29
      go_wp2_with fail
      refine (rotaref19_Same.calls K A29 c29 l A c l true w49 H49.out H29.out.1 HZ3.out HCX.out SL.out).mono ?_
      rintro e w53 ⟨rfl, hb⟩
      have B53 := Lib.hid (below_step B49.out hb)
      clear hb B49
      go_wp2_with fail
      go_ret
      exact ⟨rfl, B53.out⟩
end Go.Proofs.YtonnlkpmfmknlaaDoor.Hof
end

section
/-
  The listed table of powers of ten.
-/
set_option linter.unusedVariables false
namespace Go.Proofs.YtonnlkpmfmknlaaDoor.Laid
open Go.RowKit Go.Proofs.YtonnlkpmfmknlaaDoorW.PrintWords
theorem tab_of {w : World} (h : laidMet Tryd.prog seven w) : Hof.TB w := by
  obtain ⟨ps, hps, _⟩ := h
  obtain ⟨g, t, cs, fuel, p, hg, ht, hvar, hd⟩ := laidVars_mem hps (show ("internal/strconv.uint64pow10", Rows.laid_internal_strconv_uint64pow10) ∈ seven by simp [seven])
  have e : (Rows.laid_internal_strconv_uint64pow10 : DataW Unit) = Lib.tabData .u64 Lib.pow10Tab := by kernel_rfl
  rw [e] at hd
  obtain rfl := Option.some.inj (hg.symm.trans (show Tryd.prog.globalNamed "internal/strconv.uint64pow10" = some 0 by kernel_rfl))
  obtain rfl := Option.some.inj (ht.symm.trans (show (Tryd.prog.globals[0]?).map (·.type) = some 132 by kernel_rfl))
  have hc := Lib.cells_of_tab (show Tryd.prog.underlying 132 = some (.array 20 76) by kernel_rfl) (show Tryd.prog.underlying 76 = some (.int .u64) by kernel_rfl) (by kernel_rfl) (by kernel_rfl) hd
  refine Lib.tabBelow_of_tabIs ?_
  unfold Lib.TabIs
  rw [hvar, ← hc]
end Go.Proofs.YtonnlkpmfmknlaaDoor.Laid
namespace Go.Proofs.YtonnlkpmfmknlaaDoor.Q
open Go.RowKit Go.Proofs.YtonnlkpmfmknlaaDoorW.PrintWords Go.Proofs.YtonnlkpmfmknlaaDoor.Opn Go.Proofs.YtonnlkpmfmknlaaDoor.GA
theorem wf_u32 {n : Int} (h : (Lit.int IntKind.u32 n).wf = true) : 0 ≤ n ∧ n < 4294967296 := by
  unfold Lit.wf at h
  rw [Bool.and_eq_true] at h
  have a := of_decide_eq_true h.1
  have b := of_decide_eq_true h.2
  rw [show IntKind.u32.min = 0 by decide] at a
  rw [show IntKind.u32.max = 4294967295 by decide] at b
  omega
theorem wf_i64 {n : Int} (h : (Lit.int IntKind.i64 n).wf = true) : -9223372036854775808 ≤ n ∧ n ≤ 9223372036854775807 := by
  unfold Lit.wf at h
  rw [Bool.and_eq_true] at h
  have a := of_decide_eq_true h.1
  have b := of_decide_eq_true h.2
  rw [show IntKind.i64.min = -9223372036854775808 by decide] at a
  rw [show IntKind.i64.max = 9223372036854775807 by decide] at b
  omega
end Go.Proofs.YtonnlkpmfmknlaaDoor.Q
end

section
/-
  What Print tells of choices is read as these choices.
-/
set_option linter.unusedVariables false
set_option linter.unusedSimpArgs false
namespace Go.Proofs.YtonnlkpmfmknlaaDoor.scriptBack
open Go.ChangeShapes Go.WideShapes Go.ChangeAt Go.RowKit Go.Proofs.YtonnlkpmfmknlaaDoorW.PrintWords Go.Proofs.YtonnlkpmfmknlaaDoor.Opn
open Go.ChangeMaps (open_string shut_string)
theorem own : ownKnob Tryd.prog.godebug = none := by kernel_rfl
theorem laidOut : laidOutB Tryd.prog = true := by kernel_rfl
set_option maxRecDepth 100000 in
theorem contract (H : Type) (enc : TypeId × Value → H) (W : World) (base : Nat) (args : Array Value) (ds gs : List (DataW H)) (before : List MemPlace)
    (hval0 : ∀ (j : Nat) t v, Tryd.f7.params[j]? = some t → args[j]? = some v → Value.okWide Tryd.prog W .any base t v)
    (hW : DataW.Whole enc Tryd.prog Tryd.f7.params.toList Rows.scriptBackSpec.vars false W args.toList ds gs before)
    (hsz0 : (DataW.weightsEach Tryd.prog (Tryd.f7.params.toList ++ (OpenSpec.ofChange Rows.scriptBackSpec).bare.plain.varTypes Tryd.prog) (ds ++ gs)).all (· ≤ reachBytes) = true)
    (hSh : W.ShapedOpen Tryd.prog)
    (hL : laidMetH Tryd.prog Rows.scriptBackRow.laid W) :
    Calls Tryd.prog 7 args W fun e W' => ∃ v, e = .returned v ∧ Rows.scriptBackSpec.post enc Tryd.prog Tryd.f7 false true false false W args v W' := by
  have hsz : (DataW.weightsEach Tryd.prog (Tryd.f7.params.toList ++ Rows.scriptBackSpec.plain.varTypes Tryd.prog) (ds ++ gs)).all (· ≤ reachBytes) = true := hsz0
  have hval : ∀ (j : Nat) t v, Tryd.f7.params[j]? = some t → args[j]? = some v → Value.okWide Tryd.prog W .any base t v := hval0
  have hStd : Hof.Std W := Laid.std_of (show laidMet Tryd.prog Laid.seven W from hL) hSh
  have hW' := hW
  obtain ⟨p, q, hA0, hV, rfl, hfz, hnd⟩ := hW
  have hA : DataW.TrodAll enc Tryd.prog W 0 (fun _ => true) true Tryd.f7.params.toList args.toList ds p := hA0
  rw [Tryd.params7] at hA hval hsz
  obtain ⟨v0, vs0, d0, ds0, p0, q0, hargs, rfl, rfl, h0, r0⟩ := trodAll_cons hA
  obtain ⟨rfl, rfl, rfl⟩ := trodAll_nil r0
  obtain rfl : args = #[v0] := by cases args; simp_all
  obtain ⟨rfl, rfl⟩ := trodVars_none hV
  have k0 := h0
  have lt0 : ∀ x ∈ p0, x.block < W.heap.size := by obtain ⟨m, hm⟩ := k0; exact DataW.trod_lt m _ _ _ hm
  have ws0 : ∀ n ∈ d0.weights Tryd.prog 22, n ≤ reachBytes := fun n hn => by simpa using List.all_eq_true.1 hsz n (DataW.weights_mem_each (j := 0) rfl rfl n hn)
  obtain ⟨x0, K0, G0⟩ : ∃ x, (Kd.slice 32 GA.k32).K W x v0.cells.toList ∧ GSl 48 Kinds.G32 x (Rows.uptoBulk d0) := by
    obtain ⟨fuel, hf⟩ := h0
    exact Kinds.o22.opens enc W 0 _ _ fuel _ _ hf ws0
  obtain ⟨a0, len0, cap0, rfl⟩ := okWide_slice Tryd.underlying22 (hval 0 22 v0 rfl rfl)
  obtain ⟨A0, c0, e0, hc0, hC0⟩ := K0
  simp only [Value.cells, List.cons.injEq, and_true, Value.slice.injEq] at e0
  obtain ⟨rfl, rfl, rfl⟩ := e0
  clear hA0 hval hsz
  have hTab : Hof.TB W := Laid.tab_of (show laidMet Tryd.prog Laid.seven W from hL)
  have sm0 : Q.Small x0 := fun j => by
    unfold GA.rd_T32
    rw [List.getD_eq_getElem?_getD]
    cases hq : x0[j.toNat]? with
    | none => exact ⟨by decide, by decide⟩
    | some y =>
      have hy := G0.2.2.2 y (List.mem_of_getElem? hq)
      have y0 : y.f0.length * 4 ≤ 140737488351232 := hy.1.1
      have y1 : y.f1.length * 8 ≤ 140737488351232 := hy.2.1
      show y.f0.length < _ ∧ y.f1.length < _
      omega
  have hin0 : Q.InR x0 := fun y hy => by
    have hg := G0.2.2.2 y hy
    exact ⟨fun n hn => Q.wf_u32 (hg.1.2.2.2 n hn), fun n hn => Q.wf_i64 (hg.2.2.2.2 n hn)⟩
  refine (Hof.law7_calls _ _ x0 W hStd hTab hC0 hc0 hin0 sm0 (by have h := G0.1; omega)).mono fun e W' ⟨he, bel⟩ => ?_
  subst he
  exact ⟨_, rfl, _, _, _, [], _, [], hW', trodAll_mk1 (shut_bool Tryd.underlying4 _), (trodAll_cons_mk (Below.trod laidOut (by kernel_rfl) (of_decide_eq_true (by kernel_rfl)) k0 bel lt0) trodAll_mk0), rfl, bel.frame _, fun h => by cases h⟩
def lay (cs : Array Value) : Obj → Obj
  | .cells _ t frozen => .cells cs t frozen
  | o => o
noncomputable def laidWorld (os : Os) : World := { World.holding Tryd.prog os ⟨#[], #[], []⟩ with heap := ((((((((((World.holding Tryd.prog os ⟨#[], #[], []⟩).heap.modify 0 (lay #[.int .u64 1, .int .u64 10, .int .u64 100, .int .u64 1000, .int .u64 10000, .int .u64 100000, .int .u64 1000000, .int .u64 10000000, .int .u64 100000000, .int .u64 1000000000, .int .u64 10000000000, .int .u64 100000000000, .int .u64 1000000000000, .int .u64 10000000000000, .int .u64 100000000000000, .int .u64 1000000000000000, .int .u64 10000000000000000, .int .u64 100000000000000000, .int .u64 1000000000000000000, .int .u64 10000000000000000000])).modify 2 (lay #[.iface 150 (.pointer (some ⟨(World.holding Tryd.prog os ⟨#[], #[], []⟩).heap.size, 0, none⟩))])).modify 3 (lay #[.iface 150 (.pointer (some ⟨(World.holding Tryd.prog os ⟨#[], #[], []⟩).heap.size + 1, 0, none⟩))])).modify 4 (lay (Go.Pinned.utf8FirstZ.map fun (n : Nat) => Value.int .u8 (n : Int)).toArray)).modify 5 (lay #[.int .u8 128, .int .u8 191, .int .u8 160, .int .u8 191, .int .u8 128, .int .u8 159, .int .u8 144, .int .u8 191, .int .u8 128, .int .u8 143, .int .u8 0, .int .u8 0, .int .u8 0, .int .u8 0, .int .u8 0, .int .u8 0, .int .u8 0, .int .u8 0, .int .u8 0, .int .u8 0, .int .u8 0, .int .u8 0, .int .u8 0, .int .u8 0, .int .u8 0, .int .u8 0, .int .u8 0, .int .u8 0, .int .u8 0, .int .u8 0, .int .u8 0, .int .u8 0])).modify 6 (lay #[.int .u8 0, .int .u8 1, .int .u8 28, .int .u8 2, .int .u8 29, .int .u8 14, .int .u8 24, .int .u8 3, .int .u8 30, .int .u8 22, .int .u8 20, .int .u8 15, .int .u8 25, .int .u8 17, .int .u8 4, .int .u8 8, .int .u8 31, .int .u8 27, .int .u8 13, .int .u8 23, .int .u8 21, .int .u8 19, .int .u8 16, .int .u8 7, .int .u8 26, .int .u8 12, .int .u8 18, .int .u8 6, .int .u8 11, .int .u8 5, .int .u8 10, .int .u8 9])).modify 7 (lay #[.int .u8 0, .int .u8 1, .int .u8 56, .int .u8 2, .int .u8 57, .int .u8 49, .int .u8 28, .int .u8 3, .int .u8 61, .int .u8 58, .int .u8 42, .int .u8 50, .int .u8 38, .int .u8 29, .int .u8 17, .int .u8 4, .int .u8 62, .int .u8 47, .int .u8 59, .int .u8 36, .int .u8 45, .int .u8 43, .int .u8 51, .int .u8 22, .int .u8 53, .int .u8 39, .int .u8 33, .int .u8 30, .int .u8 24, .int .u8 18, .int .u8 12, .int .u8 5, .int .u8 63, .int .u8 55, .int .u8 48, .int .u8 27, .int .u8 60, .int .u8 41, .int .u8 37, .int .u8 16, .int .u8 46, .int .u8 35, .int .u8 44, .int .u8 21, .int .u8 52, .int .u8 32, .int .u8 23, .int .u8 11, .int .u8 54, .int .u8 26, .int .u8 40, .int .u8 15, .int .u8 34, .int .u8 20, .int .u8 31, .int .u8 10, .int .u8 25, .int .u8 14, .int .u8 19, .int .u8 9, .int .u8 13, .int .u8 8, .int .u8 7, .int .u8 6])).push (.cells #[.string ⟨#[105, 110, 118, 97, 108, 105, 100, 32, 115, 121, 110, 116, 97, 120]⟩] 152)).push (.cells #[.string ⟨#[118, 97, 108, 117, 101, 32, 111, 117, 116, 32, 111, 102, 32, 114, 97, 110, 103, 101]⟩] 152)) }
theorem laid_met (os : Os) : laidMet Tryd.prog Rows.scriptBackRow.laid ((laidWorld os).forCall (fun _ _ => 0) ⟨#[], #[.slice none 0 0], []⟩).memory := laidMet_of_run3 8 (by kernel_rfl) (by kernel_rfl) (by kernel_rfl)
theorem reads (os : Os) {H : Type} (enc : TypeId × Value → H) : ∃ places, DataW.whole enc Tryd.prog ((laidWorld os).forCall (fun _ _ => 0) ⟨#[], #[.slice none 0 0], []⟩).memory Tryd.f7.params.toList Rows.scriptBackSpec.vars false (#[.slice none 0 0] : Array Value).toList 8 = some ([.nil], [], places) := ⟨[], by kernel_rfl⟩
set_option maxRecDepth 100000 in
theorem lifted (os : Os) (started : os.Started) (H : Type) (enc : TypeId × Value → H) (F : Stop.Interp) :
    ReturnsInHanded {} Tryd.checked os 7 .any ((OpenSpec.ofChange Rows.scriptBackSpec).preRow enc Tryd.prog Tryd.f7 Rows.scriptBackRow.domain false Rows.scriptBackRow.laid) (((OpenSpec.ofChange Rows.scriptBackSpec).at F).post enc Tryd.prog Tryd.f7 false true false false) := by
  obtain ⟨places, hx⟩ := reads os enc
  refine returnsInHanded_of_row (C := Tryd.checked) (s := (OpenSpec.ofChange Rows.scriptBackSpec)) own started (by kernel_rfl) Tryd.func7
    (witness_row_at (enc := enc) (C := Tryd.checked) false (laidWorld os) #[.slice none 0 0] rfl (by kernel_rfl) (by kernel_rfl) (by kernel_rfl)
      (OpenSpec.preRow_of_cond 8 hx (by kernel_rfl) (fun k hk => by cases hk) (by kernel_rfl) (laid_met os))) ?_
  intro W base args ds gs before hval hW _ _ hsz hL hSh _
  exact contract H enc W base args ds gs before hval hW hsz hSh hL
theorem said : Rows.ScriptBackSaid :=
  OpenClaim.holds_of_cond 7 Tryd.f7 rfl rfl rfl rfl rfl rfl rfl ⟨rfl, rfl, rfl, rfl, rfl⟩ rfl rfl rfl rfl rfl (by kernel_rfl) Tryd.func7 (by kernel_rfl)
    (of_decide_eq_true (by kernel_rfl)) (by unfold Func.isWrapper; first | (rw [if_pos (by decide +kernel)]; kernel_rfl) | (rw [if_neg (by decide +kernel)]; exact ⟨rfl, rfl⟩))
    (fun os started H enc _ F => by rw [OpenClaim.pre_eq_preRow]; exact lifted os started H enc F)
theorem plain (f : FuncId) (fn : Func) (hf : Tryd.pinned.checked.prog.funcNamed Rows.scriptBackRow.func = some f) (hfn : Tryd.pinned.checked.prog.funcs[f]? = some fn) :
    true = Tryd.pinned.checked.prog.looks [] ∧ ∀ (j : Nat) t, fn.params[j]? = some t → Tryd.pinned.checked.prog.wantsStandIn t = false := by
  obtain rfl : f = 7 := Option.some.inj ((show Tryd.prog.funcNamed Rows.scriptBackRow.func = some 7 by kernel_rfl).symm.trans hf) |>.symm
  obtain rfl : fn = Tryd.f7 := (Option.some.inj (Tryd.func7.symm.trans hfn)).symm
  refine ⟨by kernel_rfl, fun j t ht => ?_⟩
  rw [Tryd.params7] at ht
  have hm := Array.mem_of_getElem? ht
  simp at hm
  rcases hm with rfl
  · exact (show Tryd.prog.wantsStandIn 22 = false by kernel_rfl)
theorem card : Rows.ScriptBackCardSaid :=
  Claim7.holds_tied_plain_at .later [] _ _ _ _ said (fun _ h => by cases h) (by kernel_rfl) (fun _ h => by cases h) scriptBack_row_tie rfl ⟨rfl, rfl⟩ (by kernel_rfl) rfl plain (by kernel_rfl)
end Go.Proofs.YtonnlkpmfmknlaaDoor.scriptBack
namespace Go.Proofs.YtonnlkpmfmknlaaDoor
theorem scriptBack_holds : Rows.ScriptBackCardSaid := scriptBack.card
end Go.Proofs.YtonnlkpmfmknlaaDoor
end
