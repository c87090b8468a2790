import Derived.Test.YtonnlkpmfmknlaaDoorMB6
import Derived.Test.YtonnlkpmfmknlaaDoorMBk1
import Derived.Test.YtonnlkpmfmknlaaDoorMBk2
import Derived.Test.YtonnlkpmfmknlaaDoorMC
import Derived.Lib.ItoaMem
import Derived.Lib.ItoaLen
import Derived.IntWalk
import Derived.PlainAid
import Derived.Test.YtonnlkpmfmknlaaDoorMB
import Derived.Lib.Hide
import Derived.WalkKit
section
-- laid by a program of this session (wip/gp.sh)
namespace Go.Proofs.YtonnlkpmfmknlaaDoor.GA
open Go.RowKit Go.Proofs.YtonnlkpmfmknlaaDoorW.PrintWords Go.Proofs.YtonnlkpmfmknlaaDoorW.PrintLast Go.Proofs.YtonnlkpmfmknlaaDoorW.PrintMore
attribute [local go_sem] max2_int min2_int max_two min_two max_three min_three max_four min_four   -- for this text's walks alone
set_option linter.unusedVariables false
set_option linter.unusedSimpArgs false

/-! ### rotalaw19_long: function 23 -/
def rotalaw19_long.l0 : Nat → List (S32) → Int → Int → Option (Bool)
  | 0, _, _, _ => none
  | k + 1, x0, x3, x4 => if x4 < (x0.length : Int) then (if x3 ≤ 1048576 then (if 0 ≤ x4 then (rotalaw19_long.l0 k x0 (wrap64 (x3 + (wrap64 ((wrap64 ((((rd_T32 x0 x4).f0).length : Int) + (((rd_T32 x0 x4).f1).length : Int))) + 1)))) (wrap64 (x4 + 1))) else (none)) else (some (decide (x3 > 1048576)))) else (some (decide (x3 > 1048576)))
def rotalaw19_long.f (k : Nat) (l0 : List (S32)) : Option (Bool) := rotalaw19_long.l0 k l0 0 0
theorem rotalaw19_long.mono_l : ∀ k, (∀ y0 y1 y2, LeO (rotalaw19_long.l0 k y0 y1 y2) (rotalaw19_long.l0 (k + 1) y0 y1 y2))
  | 0 => fun _ _ _ r h => by simp [rotalaw19_long.l0] at h
  | k + 1 => by
    have ih0 := rotalaw19_long.mono_l k
    · intro y0 y1 y2
      unfold rotalaw19_long.l0
      repeat' first
      | (with_reducible exact ih0 _ _ _)
      | (with_reducible exact LeO.refl _)
      | (with_reducible exact LeO.none _)
      | (with_reducible refine LeO.ite ?_ ?_)
      | (with_reducible refine LeO.bind ?_ (fun _ => ?_))
      | exact ih0 _ _ _
      | exact LeO.none _
      | refine LeO.ite ?_ ?_
      | refine LeO.bind ?_ (fun _ => ?_)
theorem rotalaw19_long.mono : ∀ a0 k, LeO (rotalaw19_long.f k a0) (rotalaw19_long.f (k + 1) a0) := by
  intro a0 k
  have ih0 := rotalaw19_long.mono_l k
  unfold rotalaw19_long.f
  repeat' first
      | (with_reducible exact ih0 _ _ _)
      | (with_reducible exact LeO.refl _)
      | (with_reducible exact LeO.none _)
      | (with_reducible refine LeO.ite ?_ ?_)
      | (with_reducible refine LeO.bind ?_ (fun _ => ?_))
      | exact ih0 _ _ _
      | exact LeO.none _
      | refine LeO.ite ?_ ?_
      | refine LeO.bind ?_ (fun _ => ?_)
set_option maxHeartbeats 8000000 in
set_option maxRecDepth 100000 in
theorem rotalaw19_long.calls (k : Nat) (A0 : Option Addr) (c0 : Nat) (l0 : List (S32)) (r : Bool) (w : World) (hr0 : Kd.C k32 w A0 l0.length l0) (hc0 : l0.length ≤ c0) (h : rotalaw19_long.f k l0 = some r) :
    Calls Tryd.prog 23 #[.slice A0 l0.length c0] w fun e w' => e = .returned (.bool r) ∧ Drawn0 w w' := by
  have HR0 := Aside0.mk hr0
  have HC0 := Aside0.mk hc0
  clear hr0 hc0
  have H : (rotalaw19_long.l0 k l0 0 0) = some r := h
  clear h
  have H' := Aside0.mk H
  clear H
  go_enter Tryd.func23, Tryd.ntmps23
  go_wp2
  repeat (go_quiet (fail); try go_wp2)
  go_loopg [3, 4] k (fun kq v3 v4 w' => ∃ (x3_1 : Int) (x4_1 : Int), v3 = .int .i64 x3_1 ∧ v4 = .int .i64 x4_1 ∧ Aside0 (rotalaw19_long.l0 kq l0 x3_1 x4_1 = some r) ∧ Aside0 (kq ≤ k) ∧ Drawn0 w w')
  case atStart => exact ⟨(0), (0), (by first | rfl | (simp; done) | (simp [*]; done)), (by first | rfl | (simp; done) | (simp [*]; done)), H', ⟨Nat.le_refl _⟩, by repeat (first | exact Drawn0.refl _ | apply Drawn0.step)⟩
  case round =>
    clear H'
    obtain ⟨x3_1, x4_1, rfl, rfl, HA, HK1, ⟨m1, rfl⟩⟩ := hrel
    cases gk with
    | zero => exact absurd HA.out (by simp [rotalaw19_long.l0])
    | succ k1 =>
      have H := HA.out
      clear HA
      simp only [rotalaw19_long.l0] at H
      by_cases c2 : x4_1 < (l0.length : Int)
      · rw [if_pos c2] at H
        have c2b0 : decide (x4_1 < (l0.length : Int)) = true := decide_eq_true c2
        clear c2
        by_cases c3 : x3_1 ≤ 1048576
        · rw [if_pos c3] at H
          have c3b0 : decide (x3_1 ≤ 1048576) = true := decide_eq_true c3
          clear c3
          by_cases c4 : 0 ≤ x4_1
          · rw [if_pos c4] at H
            have c4b0 : decide (0 ≤ x4_1) = true := decide_eq_true c4
            clear c4
            have H' := Aside0.mk H
            clear H
            have p333 : 0 ≤ (x4_1 : Int) := of_decide_eq_true (by first | (with_reducible assumption) | assumption)
            have q333 : x4_1 < (l0.length : Int) := of_decide_eq_true (by first | (with_reducible assumption) | assumption)
            obtain ⟨ad333, A333_0, c333_0, A333_1, c333_1, e333, hx333_0, hx333_1, hl333_0, hi333_0, hl333_1, hi333_1⟩ := at_T32 HR0.out x4_1 p333 q333
            cases e333
            have HR333_0 := Aside0.mk hi333_0
            have HC333_0 := Aside0.mk hl333_0
            clear hi333_0 hl333_0
            have HR333_1 := Aside0.mk hi333_1
            have HC333_1 := Aside0.mk hl333_1
            clear hi333_1 hl333_1
            replace p333 := eq_true p333
            replace q333 := eq_true q333
            have p334 : 0 ≤ (x4_1 : Int) := of_decide_eq_true (by first | (with_reducible assumption) | assumption)
            have q334 : x4_1 < (l0.length : Int) := of_decide_eq_true (by first | (with_reducible assumption) | assumption)
            obtain ⟨ad334, A334_0, c334_0, A334_1, c334_1, e334, hx334_0, hx334_1, hl334_0, hi334_0, hl334_1, hi334_1⟩ := at_T32 HR0.out x4_1 p334 q334
            obtain rfl : ad333 = ad334 := (by injection e334)
            have HR334_0 := Aside0.mk hi334_0
            have HC334_0 := Aside0.mk hl334_0
            clear hi334_0 hl334_0
            have HR334_1 := Aside0.mk hi334_1
            have HC334_1 := Aside0.mk hl334_1
            clear hi334_1 hl334_1
            replace p334 := eq_true p334
            replace q334 := eq_true q334
            have ea_ := Option.some.inj (hx333_0.symm.trans hx334_0)
            injection ea_ with ea_ en_ ec_
            subst ea_
            subst ec_
            clear en_
            have ea_ := Option.some.inj (hx333_1.symm.trans hx334_1)
            injection ea_ with ea_ en_ ec_
            subst ea_
            subst ec_
            clear en_
            go_wp2
            repeat (go_quiet (fail); try go_wp2)
            go_roundg k1
            case measure => have := HK1.out; omega
            case rel => exact ⟨(wrap64 (x3_1 + (wrap64 ((wrap64 ((((rd_T32 l0 x4_1).f0).length : Int) + (((rd_T32 l0 x4_1).f1).length : Int))) + 1)))), (wrap64 (x4_1 + 1)), (by first | rfl | (simp; done) | (simp [*]; done)), (by first | rfl | (simp; done) | (simp [*]; done)), H', ⟨by have := HK1.out; omega⟩, by repeat (first | exact Drawn0.refl _ | apply Drawn0.step)⟩
          · rw [if_neg c4] at H
            exact absurd H (by simp)
        · rw [if_neg c3] at H
          have c3b0 : decide (x3_1 ≤ 1048576) = false := decide_eq_false c3
          clear c3
          obtain rfl := Option.some.inj H
          go_wp2
          repeat (go_quiet (fail); try go_wp2)
          go_ret
          exact ⟨by first | rfl | (simp; done) | (simp [*]; done), by repeat (first | exact Drawn0.refl _ | apply Drawn0.step)⟩
      · rw [if_neg c2] at H
        have c2b0 : decide (x4_1 < (l0.length : Int)) = false := decide_eq_false c2
        clear c2
        obtain rfl := Option.some.inj H
        go_wp2
        repeat (go_quiet (fail); try go_wp2)
        go_ret
        exact ⟨by first | rfl | (simp; done) | (simp [*]; done), by repeat (first | exact Drawn0.refl _ | apply Drawn0.step)⟩

end Go.Proofs.YtonnlkpmfmknlaaDoor.GA
end

section
/-
  Printing in plain Lean: the frozen text is the choices' lines.
-/
set_option linter.unusedVariables false
set_option linter.unusedSimpArgs false
namespace Go.Proofs.YtonnlkpmfmknlaaDoor.Q
open Go.RowKit Go.Proofs.YtonnlkpmfmknlaaDoorW.PrintWords Go.Proofs.YtonnlkpmfmknlaaDoorW.PrintLast Go.Proofs.YtonnlkpmfmknlaaDoorW.PrintMore Go.Proofs.YtonnlkpmfmknlaaDoor.GA
/-- A list of bytes as a string. -/
abbrev sB (m : List UInt8) : ByteArray := ⟨m.toArray⟩
theorem sB_app (m n : List UInt8) : sB m ++ sB n = sB (m ++ n) := by
  apply ByteArray.ext
  simp [sB]
theorem sB_size (m : List UInt8) : (sB m).size = m.length := by simp [sB, ByteArray.size]
theorem digit (u : Nat) (h : u < 10) : strOfNums [(IntKind.u64.wrap (48 + (u : Int))) % 256] = sB [UInt8.ofNat (48 + u)] := by
  have e : IntKind.u64.wrap (48 + (u : Int)) % 256 = ((48 + u : Nat) : Int) := by
    rw [IntWalk.u64_in _ (by omega)]; omega
  rw [e]
  unfold strOfNums sB
  rw [List.map_cons, List.map_nil, Int.toNat_natCast]
theorem tdiv10 (u : Nat) (h : u < 18446744073709551616) : IntKind.u64.wrap (Int.tdiv (u : Int) 10) = ((u / 10 : Nat) : Int) := by
  rw [IntWalk.u64_quo _ _ (by omega)]; rfl
theorem tmod10 (u : Nat) : Int.tmod (u : Int) 10 = ((u % 10 : Nat) : Int) := by
  rw [Int.tmod_eq_emod_of_nonneg (by omega)]; rfl
theorem dec_len (u : Nat) (h : u < 18446744073709551616) : (Lib.decDigits u).length ≤ 20 := by rw [Lib.decDigits_length]; exact Lib.nDigits_le20 _ (by omega)
theorem decimal_is : ∀ (k u : Nat) (m : List UInt8), 0 < k → u < 10 ^ k → u < 18446744073709551616 → m.length + (Lib.decDigits u).length < 1000 → rotaref19_decimal.l0 k (u : Int) (sB m) = some (sB (Lib.decDigits u ++ m))
  | 0, u, _, h, _, _, _ => absurd h (by omega)
  | k + 1, u, m, _, h, hu, hm => by
    rw [rotaref19_decimal.l0, tdiv10 u hu, tmod10, Option.bind_some, digit _ (by omega), sB_size, sB_size, if_pos (by simp; omega), sB_app]
    by_cases c : u < 10
    · rw [if_pos (by omega), Lib.decDigits_one c, Nat.mod_eq_of_lt c]
    · have hk : 0 < k := by
        cases k with
        | zero => rw [show (10 : Nat) ^ (0 + 1) = 10 from rfl] at h; omega
        | succ k => omega
      have e : Lib.decDigits u = Lib.decDigits (u / 10) ++ [UInt8.ofNat (48 + u % 10)] := by conv => lhs; rw [Lib.decDigits, dif_neg c]
      rw [e, List.length_append] at hm
      rw [if_neg (by omega), decimal_is k (u / 10) _ hk (by rw [Nat.pow_succ] at h; omega) (by omega) (by rw [List.length_append]; omega), e, List.append_assoc]
theorem decimalF (k : Nat) (hk : 20 ≤ k) (u : Nat) (hu : u < 18446744073709551616) : rotaref19_decimal.f k (u : Int) = some (sB (Lib.decDigits u)) := by
  have hp : 10 ^ 20 ≤ 10 ^ k := Nat.pow_le_pow_right (by omega) hk
  have hl := dec_len u hu
  have hd := decimal_is k u [] (by omega) (by omega) (by omega) (by simp; omega)
  unfold rotaref19_decimal.f
  rw [show (⟨#[]⟩ : ByteArray) = sB [] from rfl, hd, List.append_nil]
theorem Number_is (k : Nat) (hk : 20 ≤ k) (a : Int) (h0 : -9223372036854775808 ≤ a) (h1 : a ≤ 9223372036854775807) : rotaref19_Number.f k a = some (sB (Lib.itoa a)) := by
  unfold rotaref19_Number.f
  by_cases c : a < 0
  · have e : IntKind.u64.wrap (-(IntKind.u64.wrap a)) = ((a.natAbs : Nat) : Int) := by
      simp only [IntKind.wrap_u64]; omega
    have hl := dec_len a.natAbs (by omega)
    rw [if_pos c, e, decimalF k hk _ (by omega), Option.bind_some]
    rw [sB_size, if_pos (by omega), show (⟨#[45]⟩ : ByteArray) = sB [45] from rfl, sB_app]
    unfold Lib.itoa
    rw [if_pos c]; rfl
  · have e : IntKind.u64.wrap a = ((a.toNat : Nat) : Int) := by
      simp only [IntKind.wrap_u64]; omega
    rw [if_neg c, e, decimalF k hk _ (by omega), Option.bind_some]
    unfold Lib.itoa
    rw [if_neg c]
/-- Bytes as numbers. -/
def bl (l : List UInt8) : List Int := l.map fun b => (b.toNat : Int)
theorem bl_len (l : List UInt8) : (bl l).length = l.length := List.length_map _
theorem bl_app (a b : List UInt8) : bl a ++ bytesOf (sB b) = bl (a ++ b) := by
  unfold bl bytesOf; rw [List.map_append]
theorem bl_ten (a : List UInt8) : bl a ++ [10] = bl (a ++ [10]) := by unfold bl; rw [List.map_append]; rfl
theorem bl_str (l : List UInt8) : strOfNums (bl l) = sB l := by
  unfold strOfNums bl sB
  congr 2
  rw [List.map_map]
  conv => rhs; rw [← List.map_id l]
  refine List.map_congr_left (fun b _ => ?_)
  simp
theorem rd_is (l : List Int) (i : Nat) (h : i < l.length) : rd l (i : Int) = l[i] := rd_at l i h
section
variable (xs : List S32) (d : Nat) (x : S32) (hx : rd_T32 xs (d : Int) = x) (hd : d < xs.length)
include hx hd
theorem p1 (hU : ∀ n ∈ x.f0, 0 ≤ n ∧ n < 4294967296) (hlen : x.f0.length ≤ 1099511627776) : ∀ (m i : Nat) (s : List UInt8), i + m = x.f0.length → (s ++ itemsU (x.f0.drop i)).length ≤ 1099511627776 → ∀ (R : ByteArray) (K0 : Nat), 20 ≤ K0 → (∀ k', K0 ≤ k' → rotaref19_Print.j2 k' xs (bl (s ++ itemsU (x.f0.drop i) ++ [10])) (d : Int) = some R) → ∀ k, K0 + m + 1 ≤ k → rotaref19_Print.l1 k xs (bl s) (d : Int) (i : Int) = some R
  | 0, i, s, hi, hl, R, K0, h20, hK, k, hk => by
    obtain ⟨k, rfl⟩ : ∃ j, k = j + 1 := ⟨k - 1, by omega⟩
    rw [List.drop_eq_nil_of_le (by omega)] at hK hl
    simp only [itemsU, List.flatMap_nil, List.append_nil] at hK hl
    rw [rotaref19_Print.l1, if_pos (by omega), if_pos (by omega), hx, if_neg (by omega), if_pos (by rw [bl_len]; omega), bl_ten]
    exact hK k (by omega)
  | m + 1, i, s, hi, hl, R, K0, h20, hK, k, hk => by
    obtain ⟨k, rfl⟩ : ∃ j, k = j + 1 := ⟨k - 1, by omega⟩
    have hil : i < x.f0.length := by omega
    have hr := hU _ (List.getElem_mem hil)
    obtain ⟨u, hu⟩ : ∃ u : Nat, x.f0[i] = (u : Int) := ⟨x.f0[i].toNat, by omega⟩
    have hdr : itemsU (x.f0.drop i) = ([32] ++ Lib.decDigits u) ++ itemsU (x.f0.drop (i + 1)) := by
      rw [List.drop_eq_getElem_cons hil, hu]
      simp [itemsU]
    rw [hdr] at hK hl
    simp only [List.length_append, List.length_cons, List.length_nil] at hl
    have hdl := dec_len u (by omega)
    rw [rotaref19_Print.l1, if_pos (by omega), if_pos (by omega), hx, if_pos (by omega), if_pos (by omega), rd_is _ i hil, hu, show IntKind.u64.wrap (u : Int) = (u : Int) from IntWalk.u64_in _ (by omega), decimalF k (by omega) u (by omega), Option.bind_some, sB_size, if_pos (by omega), show (⟨#[32]⟩ : ByteArray) = sB [32] from rfl, sB_app, if_pos (by rw [bl_len, sB_size]; simp only [List.length_append, List.length_cons, List.length_nil]; omega), bl_app, wrap_succ i _ hil (by omega)]
    exact p1 hU hlen m (i + 1) _ (by omega) (by simp only [List.length_append, List.length_cons, List.length_nil]; omega) R K0 h20 (by simpa only [List.append_assoc] using hK) k (by omega)
theorem p2 (hU : ∀ n ∈ x.f1, -9223372036854775808 ≤ n ∧ n ≤ 9223372036854775807) (hlen : x.f1.length ≤ 1099511627776) (hxs : xs.length ≤ 1099511627776) : ∀ (m i : Nat) (s : List UInt8), i + m = x.f1.length → (s ++ itemsI (x.f1.drop i)).length ≤ 1099511627776 → ∀ (R : ByteArray) (K0 : Nat), 20 ≤ K0 → (∀ k', K0 ≤ k' → rotaref19_Print.l0 k' xs (bl (s ++ itemsI (x.f1.drop i) ++ [10])) ((d + 1 : Nat) : Int) = some R) → ∀ k, K0 + m + 1 ≤ k → rotaref19_Print.l2 k xs (bl s) (d : Int) (i : Int) = some R
  | 0, i, s, hi, hl, R, K0, h20, hK, k, hk => by
    obtain ⟨k, rfl⟩ : ∃ j, k = j + 1 := ⟨k - 1, by omega⟩
    rw [List.drop_eq_nil_of_le (by omega)] at hK hl
    simp only [itemsI, List.flatMap_nil, List.append_nil] at hK hl
    rw [rotaref19_Print.l2, if_pos (by omega), if_pos (by omega), hx, if_neg (by omega), if_pos (by rw [bl_len]; omega), bl_ten, wrap_succ d _ hd (by omega)]
    exact hK k (by omega)
  | m + 1, i, s, hi, hl, R, K0, h20, hK, k, hk => by
    obtain ⟨k, rfl⟩ : ∃ j, k = j + 1 := ⟨k - 1, by omega⟩
    have hil : i < x.f1.length := by omega
    have hr := hU _ (List.getElem_mem hil)
    have hdr : itemsI (x.f1.drop i) = ([32] ++ Lib.itoa x.f1[i]) ++ itemsI (x.f1.drop (i + 1)) := by
      unfold itemsI
      rw [List.drop_eq_getElem_cons hil, List.flatMap_cons]; rfl
    rw [hdr] at hK hl
    simp only [List.length_append, List.length_cons, List.length_nil] at hl
    have hdl := itoa_len x.f1[i] hr.1 hr.2
    rw [rotaref19_Print.l2, if_pos (by omega), if_pos (by omega), hx, if_pos (by omega), if_pos (by omega), rd_is _ i hil, Number_is k (by omega) _ hr.1 hr.2, Option.bind_some, sB_size, if_pos (by omega), show (⟨#[32]⟩ : ByteArray) = sB [32] from rfl, sB_app, if_pos (by rw [bl_len, sB_size]; simp only [List.length_append, List.length_cons, List.length_nil]; omega), bl_app, wrap_succ i _ hil (by omega)]
    exact p2 hU hlen hxs m (i + 1) _ (by omega) (by simp only [List.length_append, List.length_cons, List.length_nil]; omega) R K0 h20 (by simpa only [List.append_assoc] using hK) k (by omega)
end
theorem pj (xs : List S32) (d : Nat) (x : S32) (hx : rd_T32 xs (d : Int) = x) (hd : d < xs.length) (hU : ∀ n ∈ x.f1, -9223372036854775808 ≤ n ∧ n ≤ 9223372036854775807) (hlen : x.f1.length ≤ 1099511627776) (hxs : xs.length ≤ 1099511627776) (s : List UInt8) (hl : (s ++ inputL d x.f1).length ≤ 1099511627776) (R : ByteArray) (K0 : Nat) (h20 : 20 ≤ K0)
    (hK : ∀ k', K0 ≤ k' → rotaref19_Print.l0 k' xs (bl (s ++ inputL d x.f1)) ((d + 1 : Nat) : Int) = some R) (k : Nat) (hk : K0 + x.f1.length + 2 ≤ k) : rotaref19_Print.j2 k xs (bl s) (d : Int) = some R := by
  obtain ⟨k, rfl⟩ : ∃ j, k = j + 1 := ⟨k - 1, by omega⟩
  by_cases h0 : x.f1.length = 0
  · have e : inputL d x.f1 = [] := if_pos h0
    rw [e, List.append_nil] at hK
    rw [rotaref19_Print.j2, if_pos (by omega), if_pos (by omega), hx, if_neg (by omega), wrap_succ d _ hd (by omega)]
    exact hK k (by omega)
  · have e : inputL d x.f1 = [105, 110, 112, 117, 116, 32] ++ Lib.itoa d ++ itemsI x.f1 ++ [10] := if_neg h0
    rw [e] at hK hl
    have hdl := dec_len d (by omega)
    simp only [List.length_append, List.length_cons, List.length_nil, Lib.itoa_nonneg] at hl
    rw [rotaref19_Print.j2, if_pos (by omega), if_pos (by omega), hx, if_pos (by omega), show IntKind.u64.wrap (d : Int) = (d : Int) from IntWalk.u64_in _ (by omega), decimalF k (by omega) d (by omega), Option.bind_some, sB_size, if_pos (by omega), show (⟨#[105, 110, 112, 117, 116, 32]⟩ : ByteArray) = sB [105, 110, 112, 117, 116, 32] from rfl, sB_app, if_pos (by rw [bl_len, sB_size]; simp only [List.length_append, List.length_cons, List.length_nil]; omega), bl_app]
    refine p2 xs d x hx hd hU hlen hxs x.f1.length 0 _ (by omega) (by rw [List.drop_zero]; simp only [List.length_append, List.length_cons, List.length_nil]; omega) R K0 h20 (fun k' hk' => ?_) k (by omega)
    have := hK k' hk'
    rw [Lib.itoa_nonneg] at this
    rw [List.drop_zero]
    simpa only [List.append_assoc] using this
theorem rprint (xs : List S32) (hin : InR xs) (hxs : xs.length ≤ 1099511627776) (hsm : ∀ x ∈ xs, x.f0.length ≤ 1099511627776 ∧ x.f1.length ≤ 1099511627776) (hbig : (prn 0 xs).length ≤ 1099511627776) (B : Nat) (hB : 2199023255600 ≤ B) :
    ∀ (m d : Nat) (s : List UInt8), d + m = xs.length → s ++ prn d (xs.drop d) = prn 0 xs → ∀ k, m * B + 30 ≤ k → rotaref19_Print.l0 k xs (bl s) (d : Int) = some (sB (prn 0 xs))
  | 0, d, s, hi, he, k, hk => by
    obtain ⟨k, rfl⟩ : ∃ j, k = j + 1 := ⟨k - 1, by omega⟩
    rw [List.drop_eq_nil_of_le (by omega), prn, List.append_nil] at he
    rw [rotaref19_Print.l0, if_neg (by omega), bl_str, he]
  | m + 1, d, s, hi, he, k, hk => by
    obtain ⟨k, rfl⟩ : ∃ j, k = j + 1 := ⟨k - 1, by omega⟩
    have hdl : d < xs.length := by omega
    have hmB : (m + 1) * B = m * B + B := Nat.succ_mul m B
    have hmem := List.getElem_mem hdl
    rw [List.drop_eq_getElem_cons hdl, prn] at he
    have hx := rdT_at xs d hdl
    have hu := hin _ hmem
    have hz := hsm _ hmem
    have hl := congrArg List.length he
    simp only [List.length_append] at hl
    generalize xs[d] = x at he hx hu hz hl
    have next : ∀ k', m * B + 30 ≤ k' → rotaref19_Print.l0 k' xs (bl ((s ++ stealL d x.f0) ++ inputL d x.f1)) ((d + 1 : Nat) : Int) = some (sB (prn 0 xs)) := fun k' hk' =>
      rprint xs hin hxs hsm hbig B hB m (d + 1) _ (by omega) (by rw [← he]; simp only [List.append_assoc]) k' hk'
    have mid := fun k' hk' => pj xs d x hx hdl hu.2 hz.2 hxs (s ++ stealL d x.f0) (by simp only [List.length_append]; omega) _ _ (by omega) next k' hk'
    by_cases h0 : x.f0.length = 0
    · have e : stealL d x.f0 = [] := if_pos h0
      rw [e, List.append_nil] at mid
      rw [rotaref19_Print.l0, if_pos (by omega), if_pos (by omega), hx, if_neg (by omega)]
      exact mid k (by omega)
    · have e : stealL d x.f0 = [115, 116, 101, 97, 108, 32] ++ Lib.itoa d ++ itemsU x.f0 ++ [10] := if_neg h0
      rw [e] at mid hl
      have hdg := dec_len d (by omega)
      simp only [List.length_append, List.length_cons, List.length_nil, Lib.itoa_nonneg] at hl
      rw [rotaref19_Print.l0, if_pos (by omega), if_pos (by omega), hx, if_pos (by omega), show IntKind.u64.wrap (d : Int) = (d : Int) from IntWalk.u64_in _ (by omega), decimalF k (by omega) d (by omega), Option.bind_some, sB_size, if_pos (by omega), show (⟨#[115, 116, 101, 97, 108, 32]⟩ : ByteArray) = sB [115, 116, 101, 97, 108, 32] from rfl, sB_app, if_pos (by rw [bl_len, sB_size]; simp only [List.length_append, List.length_cons, List.length_nil]; omega), bl_app]
      refine p1 xs d x hx hdl hu.1 hz.1 x.f0.length 0 _ (by omega) (by rw [List.drop_zero]; simp only [List.length_append, List.length_cons, List.length_nil]; omega) _ (m * B + 30 + x.f1.length + 2) (by omega) (fun k' hk' => ?_) k (by omega)
      have := mid k' hk'
      rw [Lib.itoa_nonneg] at this
      rw [List.drop_zero]
      simpa only [List.append_assoc] using this
end Go.Proofs.YtonnlkpmfmknlaaDoor.Q
end

section
/-
  ScriptPrints, walked: script.Print and the frozen Print tell one text.
-/
set_option linter.unusedVariables false
set_option linter.unusedSimpArgs false
namespace Go.Proofs.YtonnlkpmfmknlaaDoor.Q
open Go.RowKit Go.Proofs.YtonnlkpmfmknlaaDoorW.PrintWords Go.Proofs.YtonnlkpmfmknlaaDoorW.PrintLast Go.Proofs.YtonnlkpmfmknlaaDoorW.PrintMore Go.Proofs.YtonnlkpmfmknlaaDoor.GA
/-- How many numbers choices have, one more for each. -/
def wt : List S32 → Nat
  | [] => 0
  | x :: t => x.f0.length + x.f1.length + 1 + wt t
theorem wt_app : ∀ (a b : List S32), wt (a ++ b) = wt a + wt b
  | [], b => by simp [wt]
  | x :: t, b => by rw [List.cons_append, wt, wt, wt_app t b]; omega
theorem wt_mem : ∀ (l : List S32) (x : S32), x ∈ l → x.f0.length + x.f1.length + 1 ≤ wt l
  | [], x, h => by cases h
  | y :: t, x, h => by
    rw [wt]
    rcases List.mem_cons.1 h with rfl | h
    · omega
    · have := wt_mem t x h; omega
theorem wt_len : ∀ (l : List S32), l.length ≤ wt l
  | [] => Nat.le_refl _
  | y :: t => by have := wt_len t; rw [wt, List.length_cons]; omega
theorem wrap_in (x : Int) (h0 : 0 ≤ x) (h1 : x ≤ 9223372036854775807) : wrap64 x = x := IntWalk.wrap64_in _ (by omega)
theorem long_l (xs : List S32) (hs : Small xs) (hx : xs.length < 2932031007402) : ∀ (d i : Nat) (acc : Nat), i + d = xs.length → acc = wt (xs.take i) → ∀ k, d + 1 ≤ k → ∃ r, rotalaw19_long.l0 k xs (acc : Int) (i : Int) = some r ∧ (r = false → wt xs ≤ 1048576)
  | 0, i, acc, hi, ha, k, hk => by
    obtain ⟨k, rfl⟩ : ∃ j, k = j + 1 := ⟨k - 1, by omega⟩
    rw [List.take_of_length_le (by omega)] at ha
    rw [rotalaw19_long.l0, if_neg (by omega)]
    exact ⟨_, rfl, fun h => by have := of_decide_eq_false h; omega⟩
  | d + 1, i, acc, hi, ha, k, hk => by
    obtain ⟨k, rfl⟩ : ∃ j, k = j + 1 := ⟨k - 1, by omega⟩
    have hil : i < xs.length := by omega
    rw [rotalaw19_long.l0, if_pos (by omega)]
    by_cases h : acc ≤ 1048576
    · have hz := hs (i : Int)
      have e : wt (xs.take (i + 1)) = acc + ((rd_T32 xs (i : Int)).f0.length + (rd_T32 xs (i : Int)).f1.length + 1) := by
        rw [← take_rdT xs i hil, wt_app, ← ha]; simp [wt]
      rw [if_pos (by omega), if_pos (by omega), wrap_succ i _ hil (by omega), wrap_in ((((rd_T32 xs (i : Int)).f0).length : Int) + (((rd_T32 xs (i : Int)).f1).length : Int)) (by omega) (by omega), wrap_in ((((rd_T32 xs (i : Int)).f0).length : Int) + (((rd_T32 xs (i : Int)).f1).length : Int) + 1) (by omega) (by omega), wrap_in ((acc : Int) + ((((rd_T32 xs (i : Int)).f0).length : Int) + (((rd_T32 xs (i : Int)).f1).length : Int) + 1)) (by omega) (by omega)]
      have := long_l xs hs hx d (i + 1) _ (by omega) e.symm k (by omega)
      rw [show ((acc + ((rd_T32 xs (i : Int)).f0.length + (rd_T32 xs (i : Int)).f1.length + 1) : Nat) : Int) = (acc : Int) + ((((rd_T32 xs (i : Int)).f0).length : Int) + (((rd_T32 xs (i : Int)).f1).length : Int) + 1) by omega] at this
      exact this
    · rw [if_neg (by omega)]
      exact ⟨_, rfl, fun h2 => by have := of_decide_eq_false h2; omega⟩
theorem longF (xs : List S32) (hs : Small xs) (hx : xs.length < 2932031007402) (k : Nat) (hk : xs.length + 1 ≤ k) : ∃ r, rotalaw19_long.f k xs = some r ∧ (r = false → wt xs ≤ 1048576) := by
  have := long_l xs hs hx xs.length 0 0 (by omega) rfl k hk
  exact this
theorem itemsU_len : ∀ (l : List Int), (∀ n ∈ l, 0 ≤ n ∧ n < 4294967296) → (itemsU l).length ≤ 22 * l.length
  | [], _ => Nat.le_refl _
  | n :: t, h => by
    have h1 := itemsU_len t (fun n hn => h n (List.mem_cons_of_mem _ hn))
    have h2 := h n List.mem_cons_self
    have h3 := dec_len n.toNat (by omega)
    unfold itemsU at h1 ⊢
    rw [List.flatMap_cons, List.length_append, List.length_cons, List.length_cons]; omega
theorem itemsI_len : ∀ (l : List Int), (∀ n ∈ l, -9223372036854775808 ≤ n ∧ n ≤ 9223372036854775807) → (itemsI l).length ≤ 22 * l.length
  | [], _ => Nat.le_refl _
  | n :: t, h => by
    have h1 := itemsI_len t (fun n hn => h n (List.mem_cons_of_mem _ hn))
    have h2 := h n List.mem_cons_self
    have h3 := itoa_len n h2.1 h2.2
    unfold itemsI at h1 ⊢
    rw [List.flatMap_cons, List.length_append, List.length_cons, List.length_cons]; omega
theorem prn_len : ∀ (l : List S32) (d : Nat), InR l → d + l.length < 9223372036854775807 → (prn d l).length ≤ 60 * wt l
  | [], _, _, _ => Nat.le_refl _
  | x :: t, d, h, hd => by
    rw [List.length_cons] at hd
    have h1 := prn_len t (d + 1) (fun y hy => h y (List.mem_cons_of_mem _ hy)) (by omega)
    have h2 := h x List.mem_cons_self
    have a := itemsU_len x.f0 h2.1
    have b := itemsI_len x.f1 h2.2
    have c := itoa_len (d : Int) (by omega) (by omega)
    have e0 : (stealL d x.f0).length ≤ 28 + 22 * x.f0.length := by
      unfold stealL; split
      · simp
      · simp only [List.length_append, List.length_cons, List.length_nil]; omega
    have e1 : (inputL d x.f1).length ≤ 28 + 22 * x.f1.length := by
      unfold inputL; split
      · simp
      · simp only [List.length_append, List.length_cons, List.length_nil]; omega
    rw [prn, wt, List.length_append, List.length_append]
    omega
/-- What printing needs of choices that are not too many. -/
structure Fine (K : Nat) (l : List S32) : Prop where
  inr : InR l
  wts : wt l ≤ 1048576
  len : (prn 0 l).length ≤ 1099511627776
  many : l.length ≤ 1099511627776
  each : ∀ x ∈ l, x.f0.length ≤ 1099511627776 ∧ x.f1.length ≤ 1099511627776
  twin : rotalaw19_twin.f K l = some l
  text : rotaref19_Print.f K l = some (sB (prn 0 l))
theorem fine_of (K : Nat) (hK : 5000000000000000000 ≤ K) {l : List S32} (h : InR l) (hw : wt l ≤ 1048576) : Fine K l := by
  have h1 := wt_len l
  have h2 := wt_mem l
  have hl : l.length ≤ 1099511627776 := by omega
  have he : ∀ x ∈ l, x.f0.length ≤ 1099511627776 ∧ x.f1.length ≤ 1099511627776 := fun x hx => by have := h2 x hx; omega
  have hp : (prn 0 l).length ≤ 1099511627776 := by have := prn_len l 0 h (by omega); omega
  have sm : Small l := fun i => by
    unfold rd_T32
    rw [List.getD_eq_getElem?_getD]
    cases hq : l[i.toNat]? with
    | none => exact ⟨by decide, by decide⟩
    | some y => have := he y (List.mem_of_getElem? hq); exact ⟨by show y.f0.length < _; omega, by show y.f1.length < _; omega⟩
  have b0 : ∀ i, (rd_T32 l i).f0.length + (rd_T32 l i).f1.length + 2 ≤ 52776558133260 := fun i => by have := sm i; omega
  refine ⟨h, hw, hp, hl, he, twin_l l (by omega) sm 52776558133260 b0 l.length 0 (by omega) _ (by omega), ?_⟩
  obtain ⟨B, hB⟩ : ∃ B : Nat, B = 2199023255600 := ⟨_, rfl⟩
  have hm : l.length * B ≤ 1048576 * B := Nat.mul_le_mul_right _ (by omega)
  have := rprint l h hl he hp B (by omega) l.length 0 [] (by omega) (by rw [List.drop_zero, List.nil_append]) K (by omega)
  exact this
end Go.Proofs.YtonnlkpmfmknlaaDoor.Q
namespace Go.Proofs.YtonnlkpmfmknlaaDoor.Hof
open Go.RowKit Go.Shelf Go.Proofs.YtonnlkpmfmknlaaDoorW.PrintWords Go.Proofs.YtonnlkpmfmknlaaDoorW.PrintLast Go.Proofs.YtonnlkpmfmknlaaDoorW.PrintMore Hctx GA
theorem tb_below {w W : World} (h : TB w) (hb : Below w.heap.size w W) : TB W := fun w' hb' => h w' (below_step hb hb')
theorem str_eq (s : ByteArray) : (s.toList == s.toList) = true := beq_self_eq_true _
set_option maxHeartbeats 4000000 in
set_option maxRecDepth 100000 in
theorem law6_calls (A : Option Addr) (c : Nat) (l : List S32) (w : World) (S0 : Std w) (hT : TB w) (hl : k32.C w A l.length l) (hc : l.length ≤ c) (hin : Q.InR l) (hs : Q.Small l) (hx : l.length < 2932031007402) :
    Calls Tryd.prog 6 #[.slice A l.length c] w fun e W' => e = .returned (.bool true) ∧ Below w.heap.size w W' := by
  obtain ⟨K, hK⟩ : ∃ K : Nat, 5000000000000000000 ≤ K := ⟨_, Nat.le_refl _⟩
  obtain ⟨r, hr, hw⟩ := Q.longF l hs hx 100000000000000 (by omega)
  have HT := Lib.hid hT
  have S := Lib.hid S0
  have HL := Lib.hid hl
  have HC := Lib.hid hc
  have HR := Lib.hid hr
  cases r with
  | true =>
    have F : RowKit.Hid (Q.Fine K ([] : List S32)) := Lib.hid (Q.fine_of K hK (fun x hx => by cases hx) (by decide))
    clear hT S0 hl hc hin hs hx hr hw hK
    go_enter Tryd.func6, Tryd.ntmps6
    go_wp2_with fail
    refine (rotalaw19_long.calls 100000000000000 A c l true w HL.out HC.out HR.out).mono ?_
    rintro e w1 ⟨rfl, hd⟩
    have B1 := Lib.hid hd.below
    clear hd
    go_wp2_with fail
    refine (lives_calls w1 (S.out.below B1.out)).mono ?_
    rintro e w2 ⟨rfl, hb⟩
    have B2 := Lib.hid (below_step B1.out hb)
    clear hb B1
    go_wp2_with fail
    refine (rotalaw19_twin.calls _ none 0 ([] : List S32) ([] : List S32) w2 (Kd.C_nil k32 _) (by simp) F.out.twin).mono ?_
    rintro e w3 ⟨v3, rfl, hS, hb⟩
    obtain ⟨A3, c3, rfl, hc3, hC3⟩ := Kd.R_reads (Kd.S_R hS)
    have H3 := Lib.hid (And.intro hc3 hC3)
    have B3 := Lib.hid (below_step B2.out hb)
    clear hS hc3 hC3 hb B2
    go_wp2_with fail
    refine (print_calls A3 c3 ([] : List S32) w3 H3.out.2 H3.out.1 (tb_below HT.out B3.out) F.out.inr F.out.len F.out.many F.out.each).mono ?_
    rintro e w4 ⟨rfl, hb⟩
    have B4 := Lib.hid (below_step B3.out hb)
    clear hb B3 H3
    go_wp2_with fail
    refine (rotaref19_Print.calls _ none 0 ([] : List S32) _ w4 (Kd.C_nil k32 _) (by simp) F.out.text).mono ?_
    rintro e w5 ⟨rfl, hb⟩
    have B5 := Lib.hid (below_step B4.out hb)
    clear hb B4
    go_wp2_with fail
    go_ret
    exact ⟨by simp, B5.out⟩
  | false =>
    have F := Lib.hid (Q.fine_of K hK hin (hw rfl))
    clear hT S0 hl hc hin hs hx hr hw hK
    go_enter Tryd.func6, Tryd.ntmps6
    go_wp2_with fail
    refine (rotalaw19_long.calls 100000000000000 A c l false w HL.out HC.out HR.out).mono ?_
    rintro e w1 ⟨rfl, hd⟩
    have B1 := Lib.hid hd.below
    clear hd
    go_wp2_with fail
    refine (lives_calls w1 (S.out.below B1.out)).mono ?_
    rintro e w2 ⟨rfl, hb⟩
    have B2 := Lib.hid (below_step B1.out hb)
    clear hb B1
    go_wp2_with fail
    refine (rotalaw19_twin.calls _ A c l l w2 (Kd.C_below HL.out B2.out) HC.out F.out.twin).mono ?_
    rintro e w3 ⟨v3, rfl, hS, hb⟩
    obtain ⟨A3, c3, rfl, hc3, hC3⟩ := Kd.R_reads (Kd.S_R hS)
    have H3 := Lib.hid (And.intro hc3 hC3)
    have B3 := Lib.hid (below_step B2.out hb)
    clear hS hc3 hC3 hb B2
    go_wp2_with fail
    refine (print_calls A3 c3 l w3 H3.out.2 H3.out.1 (tb_below HT.out B3.out) F.out.inr F.out.len F.out.many F.out.each).mono ?_
    rintro e w4 ⟨rfl, hb⟩
    have B4 := Lib.hid (below_step B3.out hb)
    clear hb B3 H3
    go_wp2_with fail
    refine (rotaref19_Print.calls _ A c l _ w4 (Kd.C_below HL.out B4.out) HC.out F.out.text).mono ?_
    rintro e w5 ⟨rfl, hb⟩
    have B5 := Lib.hid (below_step B4.out hb)
    clear hb B4
    go_wp2_with fail
    go_ret
    exact ⟨by simp, B5.out⟩
end Go.Proofs.YtonnlkpmfmknlaaDoor.Hof
end

section
-- laid by a program of this session (wip/gp.sh)
namespace Go.Proofs.YtonnlkpmfmknlaaDoor.GA
open Go.RowKit Go.Proofs.YtonnlkpmfmknlaaDoorW.PrintWords Go.Proofs.YtonnlkpmfmknlaaDoorW.PrintLast Go.Proofs.YtonnlkpmfmknlaaDoorW.PrintMore
attribute [local go_sem] max2_int min2_int max_two min_two max_three min_three max_four min_four   -- for this text's walks alone
set_option linter.unusedVariables false
set_option linter.unusedSimpArgs false

/-! ### rotaref19_lines: function 33 -/
def rotaref19_lines.l0 : Nat → ByteArray → List ByteArray → Int → Int → Option (List ByteArray)
  | 0, _, _, _, _ => none
  | k + 1, x0, x3, x4, x5 => if x5 < (x0.size : Int) then (if 0 ≤ x5 then (if (bt x0 x5) = 10 then (if 0 ≤ x4 then (if x4 ≤ x5 then (if x5 ≤ (x0.size : Int) then (if x3.length < 8796093022208 then (rotaref19_lines.l0 k x0 (x3 ++ [x0.extract (x4 : Int).toNat (x5 : Int).toNat]) (wrap64 (x5 + 1)) (wrap64 (x5 + 1))) else (none)) else (none)) else (none)) else (none)) else (rotaref19_lines.l0 k x0 x3 x4 (wrap64 (x5 + 1)))) else (none)) else (if x4 < (x0.size : Int) then (if 0 ≤ x4 then (if x4 ≤ (x0.size : Int) then (if x3.length < 8796093022208 then (some (x3 ++ [x0.extract (x4 : Int).toNat x0.size])) else (none)) else (none)) else (none)) else (some x3))
def rotaref19_lines.f (k : Nat) (a0 : ByteArray) : Option (List ByteArray) := rotaref19_lines.l0 k a0 (([] : List ByteArray)) 0 0
theorem rotaref19_lines.mono_l : ∀ k, (∀ y0 y1 y2 y3, LeO (rotaref19_lines.l0 k y0 y1 y2 y3) (rotaref19_lines.l0 (k + 1) y0 y1 y2 y3))
  | 0 => fun _ _ _ _ r h => by simp [rotaref19_lines.l0] at h
  | k + 1 => by
    have ih0 := rotaref19_lines.mono_l k
    · intro y0 y1 y2 y3
      unfold rotaref19_lines.l0
      repeat' first
      | (with_reducible exact ih0 _ _ _ _)
      | (with_reducible exact LeO.refl _)
      | (with_reducible exact LeO.none _)
      | (with_reducible refine LeO.ite ?_ ?_)
      | (with_reducible refine LeO.bind ?_ (fun _ => ?_))
      | exact ih0 _ _ _ _
      | exact LeO.none _
      | refine LeO.ite ?_ ?_
      | refine LeO.bind ?_ (fun _ => ?_)
theorem rotaref19_lines.mono : ∀ a0 k, LeO (rotaref19_lines.f k a0) (rotaref19_lines.f (k + 1) a0) := by
  intro a0 k
  have ih0 := rotaref19_lines.mono_l k
  unfold rotaref19_lines.f
  repeat' first
      | (with_reducible exact ih0 _ _ _ _)
      | (with_reducible exact LeO.refl _)
      | (with_reducible exact LeO.none _)
      | (with_reducible refine LeO.ite ?_ ?_)
      | (with_reducible refine LeO.bind ?_ (fun _ => ?_))
      | exact ih0 _ _ _ _
      | exact LeO.none _
      | refine LeO.ite ?_ ?_
      | refine LeO.bind ?_ (fun _ => ?_)
set_option maxHeartbeats 8000000 in
set_option maxRecDepth 100000 in
theorem rotaref19_lines.calls (k : Nat) (a0 : ByteArray) (r : List ByteArray) (w : World) (h : rotaref19_lines.f k a0 = some r) :
    Calls Tryd.prog 33 #[.string a0] w fun e w' => ∃ v0_ : Value, e = .returned (v0_) ∧ Kd.R Kd.string 9 w' w.heap.size (fun _ => True) v0_ r ∧ Below w.heap.size w w' := by
  have HB := Aside0.mk (Below.refl w.heap.size w)
  have H : (rotaref19_lines.l0 k a0 (([] : List ByteArray)) 0 0) = some r := h
  clear h
  obtain ⟨y146, hy146⟩ : ∃ y_ : List ByteArray, y_ = (([] : List ByteArray)) := ⟨_, rfl⟩
  replace H : (rotaref19_lines.l0 k a0 y146 0 0) = some r := by first | (rw [hy146]; with_reducible exact H) | (have H2_ := (Option.bind_some _ _).symm.trans H; rw [hy146]; with_reducible exact H2_) | (have H2_ := (Option.bind_some _ _).symm.trans H; with_reducible exact H2_) | with_reducible exact H | (rw [hy146]; exact H) | exact H
  have Ny146 := Aside0.mk hy146
  clear hy146
  have H' := Aside0.mk H
  clear H
  go_enter Tryd.func33, Tryd.ntmps33
  go_wp2_with (first | ((with_reducible refine gate_dst (N := 6) rfl ?_); refine Kd.R_lit Kd.string _ 9 ?hg (N := 6) ?hd (xs := ([] : List ByteArray)) (inner := []) (ok := fun _ => True) (okp := fun _ => True) ?hr ?hp (fun _ hk => hk) trivial (Below.refl _ _) (Nat.le_refl _) (by simp) ?_; (case hd => rfl); (case hg => rfl); (case hr => first | (go_simp; done) | (go_simp; rfl)); (case hp => exact (Reps.none _ _)); intro v147 w2 ho3 hb hg_ hnew_; clear hg_ hnew_; (first | rw [← Ny146.out] at ho3 | (simp only [Int.reduceToNat] at ho3; rw [← Ny146.out] at ho3)); have n0_ := Aside0.mk (Kd.R_lower ho3 (below_size (by repeat (first | (with_reducible first | exact HB.out | apply below_alloc | apply pw_below_drewN | apply below_drew1) | exact HB.out)))); have n1_ := Aside0.mk (below_step (by repeat (first | (with_reducible first | exact HB.out | apply below_alloc | apply pw_below_drewN | apply below_drew1) | exact HB.out)) hb); clear HB; have HO148 := n0_; have HB := n1_; clear n0_ n1_; clear hb ho3))
  go_loopg [3, 4, 5] k (fun kq v3 v4 v5 w' => ∃ (x3_1 : List ByteArray) (x4_1 : Int) (x5_1 : Int), v4 = .int .i64 x4_1 ∧ v5 = .int .i64 x5_1 ∧ Aside0 (rotaref19_lines.l0 kq a0 x3_1 x4_1 x5_1 = some r) ∧ Aside0 (kq ≤ k) ∧ Aside0 (Kd.R Kd.string 9 w' w.heap.size (fun _ => True) v3 x3_1) ∧ Aside0 (Below w.heap.size w w'))
  case atStart => exact ⟨(y146), (0), (0), (by first | rfl | (simp; done) | (simp [*]; done)), (by first | rfl | (simp; done) | (simp [*]; done)), H', ⟨Nat.le_refl _⟩, ⟨by (with_reducible repeat (first | apply Kd.R_alloc | apply Kd.R_drewN | apply Kd.R_drew)); exact HO148.out⟩, ⟨by repeat (first | (with_reducible first | exact HB.out | apply below_alloc | apply pw_below_drewN | apply below_drew1) | exact HB.out)⟩⟩
  case round =>
    clear H'
    try clear p2
    try clear c3
    obtain ⟨x3_1, x4_1, x5_1, rfl, rfl, HA, HK1, HO_3, HB⟩ := hrel
    cases gk with
    | zero => exact absurd HA.out (by simp [rotaref19_lines.l0])
    | succ k1 =>
      have H := HA.out
      clear HA
      simp only [rotaref19_lines.l0] at H
      by_cases c4 : x5_1 < (a0.size : Int)
      · rw [if_pos c4] at H
        have c4b0 : decide (x5_1 < (a0.size : Int)) = true := decide_eq_true c4
        clear c4
        by_cases c5 : 0 ≤ x5_1
        · rw [if_pos c5] at H
          have c5b0 : decide (0 ≤ x5_1) = true := decide_eq_true c5
          clear c5
          by_cases c7 : (bt a0 x5_1) = 10
          · rw [if_pos c7] at H
            have c7b0 : ((bt a0 x5_1) == 10) = true := beq_iff_eq.mpr c7
            have c7b1 : ((bt a0 x5_1) != 10) = false := bne_eq_false_iff_eq.mpr c7
            clear c7
            by_cases c8 : 0 ≤ x4_1
            · rw [if_pos c8] at H
              have c8b0 := eq_true c8
              have c8b1 : decide (0 ≤ x4_1) = true := decide_eq_true c8
              clear c8
              by_cases c9 : x4_1 ≤ x5_1
              · rw [if_pos c9] at H
                have c9b0 := eq_true c9
                have c9b1 : decide (x4_1 ≤ x5_1) = true := decide_eq_true c9
                clear c9
                by_cases c10 : x5_1 ≤ (a0.size : Int)
                · rw [if_pos c10] at H
                  have c10b0 := eq_true c10
                  have c10b1 : decide (x5_1 ≤ (a0.size : Int)) = true := decide_eq_true c10
                  clear c10
                  by_cases c11 : x3_1.length < 8796093022208
                  · rw [if_pos c11] at H
                    have LMc11 := Aside0.mk c11
                    clear c11
                    obtain ⟨y149, hy149⟩ : ∃ y_ : List ByteArray, y_ = (x3_1 ++ [a0.extract (x4_1 : Int).toNat (x5_1 : Int).toNat]) := ⟨_, rfl⟩
                    replace H : (rotaref19_lines.l0 k1 a0 y149 (wrap64 (x5_1 + 1)) (wrap64 (x5_1 + 1))) = some r := by first | (rw [hy149]; with_reducible exact H) | (have H2_ := (Option.bind_some _ _).symm.trans H; rw [hy149]; with_reducible exact H2_) | (have H2_ := (Option.bind_some _ _).symm.trans H; with_reducible exact H2_) | with_reducible exact H | (rw [hy149]; exact H) | exact H
                    have Ny149 := Aside0.mk hy149
                    clear hy149
                    have H' := Aside0.mk H
                    clear H
                    have p6 : 0 ≤ (x5_1 : Int) := of_decide_eq_true (by first | (with_reducible assumption) | assumption)
                    have q6 : x5_1 < (a0.size : Int) := of_decide_eq_true (by first | (with_reducible assumption) | assumption)
                    have hx6 := bt_at a0 x5_1
                    replace p6 := eq_true p6
                    replace q6 := eq_true q6
                    go_wp2_with (first | ((with_reducible refine gate_builtin (b := .append) (xs := #[.tmp 17, .tmp 22]) rfl ?_); at_builtin; refine Kd.R_append Kd.string (w0 := w) w.heap.size rfl (.tmp 17) (.tmp 22) 52 9 (.string ⟨#[]⟩) 16 rfl Tryd.underlying52 info9 rfl (by decide) (by omega) u3 x3_1 (a0.extract (x4_1 : Int).toNat (x5_1 : Int).toNat) [.string (a0.extract (x4_1 : Int).toNat (x5_1 : Int).toNat)] (fun _ => True) (fun _ => False) rfl rfl ?aP (fun _ hk => hk.elim) ?aF ?aO ?aB ?aS ?aL ?_; (case aP => exact rfl); (case aB => exact (by repeat (first | (with_reducible first | exact HB.out | apply below_alloc | apply pw_below_drewN | apply below_drew1) | exact HB.out))); (case aF => exact (fun _ _ => trivial)); (case aO => exact (by (with_reducible repeat (first | apply Kd.R_alloc | apply Kd.R_drewN | apply Kd.R_drew)); exact HO_3.out)); (case aS => exact (below_size (by repeat (first | (with_reducible first | exact HB.out | apply below_alloc | apply pw_below_drewN | apply below_drew1) | exact HB.out)))); (case aL => have := LMc11.out; omega); intro v150 w12 ho hb hg hat; rw [← Ny149.out] at ho; have n0_ := Aside0.mk (hb); have n1_ := Aside0.mk (ho); clear HB; clear HO_3; have HB := n0_; have HO151 := n1_; clear n0_ n1_; clear ho hb hg hat))
                    go_roundg k1
                    case measure => have := HK1.out; omega
                    case rel => exact ⟨(y149), (wrap64 (x5_1 + 1)), (wrap64 (x5_1 + 1)), (by first | rfl | (simp; done) | (simp [*]; done)), (by first | rfl | (simp; done) | (simp [*]; done)), H', ⟨by have := HK1.out; omega⟩, ⟨by (with_reducible repeat (first | apply Kd.R_alloc | apply Kd.R_drewN | apply Kd.R_drew)); exact HO151.out⟩, ⟨by repeat (first | (with_reducible first | exact HB.out | apply below_alloc | apply pw_below_drewN | apply below_drew1) | exact HB.out)⟩⟩
                  · rw [if_neg c11] at H
                    exact absurd H (by simp)
                · rw [if_neg c10] at H
                  exact absurd H (by simp)
              · rw [if_neg c9] at H
                exact absurd H (by simp)
            · rw [if_neg c8] at H
              exact absurd H (by simp)
          · rw [if_neg c7] at H
            have c7b0 : ((bt a0 x5_1) == 10) = false := beq_eq_false_iff_ne.mpr c7
            have c7b1 : ((bt a0 x5_1) != 10) = true := bne_iff_ne.mpr c7
            have H' := Aside0.mk H
            clear H
            have p6 : 0 ≤ (x5_1 : Int) := of_decide_eq_true (by first | (with_reducible assumption) | assumption)
            have q6 : x5_1 < (a0.size : Int) := of_decide_eq_true (by first | (with_reducible assumption) | assumption)
            have hx6 := bt_at a0 x5_1
            replace p6 := eq_true p6
            replace q6 := eq_true q6
            go_wp2
            go_roundg k1
            case measure => have := HK1.out; omega
            case rel => exact ⟨(x3_1), (x4_1), (wrap64 (x5_1 + 1)), (by first | rfl | (simp; done) | (simp [*]; done)), (by first | rfl | (simp; done) | (simp [*]; done)), H', ⟨by have := HK1.out; omega⟩, ⟨by (with_reducible repeat (first | apply Kd.R_alloc | apply Kd.R_drewN | apply Kd.R_drew)); exact HO_3.out⟩, ⟨by repeat (first | (with_reducible first | exact HB.out | apply below_alloc | apply pw_below_drewN | apply below_drew1) | exact HB.out)⟩⟩
        · rw [if_neg c5] at H
          exact absurd H (by simp)
      · rw [if_neg c4] at H
        have c4b0 : decide (x5_1 < (a0.size : Int)) = false := decide_eq_false c4
        clear c4
        by_cases c13 : x4_1 < (a0.size : Int)
        · rw [if_pos c13] at H
          have c13b0 : decide (x4_1 < (a0.size : Int)) = true := decide_eq_true c13
          clear c13
          by_cases c14 : 0 ≤ x4_1
          · rw [if_pos c14] at H
            have c14b0 := eq_true c14
            have c14b1 : decide (0 ≤ x4_1) = true := decide_eq_true c14
            clear c14
            by_cases c15 : x4_1 ≤ (a0.size : Int)
            · rw [if_pos c15] at H
              have c15b0 := eq_true c15
              have c15b1 : decide (x4_1 ≤ (a0.size : Int)) = true := decide_eq_true c15
              clear c15
              by_cases c16 : x3_1.length < 8796093022208
              · rw [if_pos c16] at H
                have LMc16 := Aside0.mk c16
                clear c16
                obtain ⟨y152, hy152⟩ : ∃ y_ : List ByteArray, y_ = (x3_1 ++ [a0.extract (x4_1 : Int).toNat a0.size]) := ⟨_, rfl⟩
                replace H : (some y152) = some r := by first | (rw [hy152]; with_reducible exact H) | (have H2_ := (Option.bind_some _ _).symm.trans H; rw [hy152]; with_reducible exact H2_) | (have H2_ := (Option.bind_some _ _).symm.trans H; with_reducible exact H2_) | with_reducible exact H | (rw [hy152]; exact H) | exact H
                have Ny152 := Aside0.mk hy152
                clear hy152
                obtain rfl := Option.some.inj H
                go_wp2_with (first | ((with_reducible refine gate_builtin (b := .append) (xs := #[.tmp 30, .tmp 34]) rfl ?_); at_builtin; refine Kd.R_append Kd.string (w0 := w) w.heap.size rfl (.tmp 30) (.tmp 34) 52 9 (.string ⟨#[]⟩) 16 rfl Tryd.underlying52 info9 rfl (by decide) (by omega) u3 x3_1 (a0.extract (x4_1 : Int).toNat a0.size) [.string (a0.extract (x4_1 : Int).toNat a0.size)] (fun _ => True) (fun _ => False) rfl rfl ?aP (fun _ hk => hk.elim) ?aF ?aO ?aB ?aS ?aL ?_; (case aP => exact rfl); (case aB => exact (by repeat (first | (with_reducible first | exact HB.out | apply below_alloc | apply pw_below_drewN | apply below_drew1) | exact HB.out))); (case aF => exact (fun _ _ => trivial)); (case aO => exact (by (with_reducible repeat (first | apply Kd.R_alloc | apply Kd.R_drewN | apply Kd.R_drew)); exact HO_3.out)); (case aS => exact (below_size (by repeat (first | (with_reducible first | exact HB.out | apply below_alloc | apply pw_below_drewN | apply below_drew1) | exact HB.out)))); (case aL => have := LMc16.out; omega); intro v153 w17 ho hb hg hat; rw [← Ny152.out] at ho; have n0_ := Aside0.mk (hb); have n1_ := Aside0.mk (ho); clear HB; clear HO_3; have HB := n0_; have HO154 := n1_; clear n0_ n1_; clear ho hb hg hat))
                go_ret
                exact ⟨_, by first | rfl | (simp [errW_none, errW_some] <;> rfl) | (simp [*, errW_none, errW_some] <;> rfl), by (with_reducible repeat (first | apply Kd.R_alloc | apply Kd.R_drewN | apply Kd.R_drew)); exact HO154.out, by repeat (first | (with_reducible first | exact HB.out | apply below_alloc | apply pw_below_drewN | apply below_drew1) | exact HB.out)⟩
              · rw [if_neg c16] at H
                exact absurd H (by simp)
            · rw [if_neg c15] at H
              exact absurd H (by simp)
          · rw [if_neg c14] at H
            exact absurd H (by simp)
        · rw [if_neg c13] at H
          have c13b0 : decide (x4_1 < (a0.size : Int)) = false := decide_eq_false c13
          clear c13
          obtain rfl := Option.some.inj H
          go_wp2
          go_ret
          exact ⟨_, by first | rfl | (simp [errW_none, errW_some] <;> rfl) | (simp [*, errW_none, errW_some] <;> rfl), by (with_reducible repeat (first | apply Kd.R_alloc | apply Kd.R_drewN | apply Kd.R_drew)); exact HO_3.out, by repeat (first | (with_reducible first | exact HB.out | apply below_alloc | apply pw_below_drewN | apply below_drew1) | exact HB.out)⟩

end Go.Proofs.YtonnlkpmfmknlaaDoor.GA
end
