import Derived.Test.YtdbpglhdicmhhaaGreatDoorMPr13
import Derived.Test.YtdbpglhdicmhhaaGreatDoorMPr14
import Derived.Test.YtdbpglhdicmhhaaGreatDoorMPr15
import Derived.Test.YtdbpglhdicmhhaaGreatDoorMPr16
import Derived.Test.YtdbpglhdicmhhaaGreatDoorMPr4
import Derived.Test.YtdbpglhdicmhhaaGreatDoorMPr11
import Derived.Test.YtdbpglhdicmhhaaGreatDoorMPr3
import Derived.Lib.AppendIntMem
set_option maxHeartbeats 8000000
set_option maxRecDepth 100000
set_option linter.unusedVariables false
set_option linter.unusedSimpArgs false
section
namespace Go.Proofs.YtdbpglhdicmhhaaGreatDoor.Q
open Go.RowKit Go.Proofs.YtdbpglhdicmhhaaGreatDoor.GA Go.Proofs.YtdbpglhdicmhhaaGreatDoor.rQ Go.Proofs.YtdbpglhdicmhhaaGreatDoor.dH
def star (s : ByteArray) : ByteArray:=if s.data.toList = [97,108,108] then ⟨#[42]⟩ else s
theorem RH : (List.range 58).map (fun k : Nat => aT.f ((k : Int) + 1)) =
  (List.range 58).map (fun k : Nat => some ((dH.rowAt k).1,(dH.rowAt k).2.1,(dH.rowAt k).2.2.1,star (dH.rowAt k).2.2.2.1,star (dH.rowAt k).2.2.2.2,true)):=by kernel_rfl
theorem JD (k : Nat) (hk : k < 58) : aT.f ((k : Int) + 1) = some ((dH.rowAt k).1,(dH.rowAt k).2.1,(dH.rowAt k).2.2.1,star (dH.rowAt k).2.2.2.1,star (dH.rowAt k).2.2.2.2,true) :=
 PD 58 (fun k : Nat => aT.f ((k : Int) + 1)) _ RH k hk
theorem Lr (k : Nat) (hk : k < 58) : fO.f ((k : Int) + 1) = some ((dH.rowAt k).1,(dH.rowAt k).2.1,(dH.rowAt k).2.2.1,(dH.rowAt k).2.2.2.1,(dH.rowAt k).2.2.2.2,0):=by
 unfold fO.f
 rw [if_pos (by omega),show ((k : Int) + 1 - 1).toNat = k from by omega]
theorem UF (n : Int) (h : ¬ (1 ≤ n ∧ n ≤ 58)) : fO.f n = some (⟨#[]⟩,0,0,⟨#[]⟩,⟨#[]⟩,60):=by
 unfold fO.f
 rw [if_neg h]
theorem Rz (n : Int) (h : ¬ (1 ≤ n ∧ n ≤ 58)) : aT.f n = some (⟨#[]⟩,0,0,⟨#[]⟩,⟨#[]⟩,false):=by
 have h1 : dW.f n = some (⟨#[]⟩,0,0,⟨#[]⟩,⟨#[]⟩,false):=by
  unfold dW.f
  iterate 29 rw [if_neg (by omega)]
 unfold aT.f
 iterate 29 rw [if_neg (by omega)]
 rw [h1]
 rfl
theorem Xh (n : Int) : (∃ k : Nat,k < 58 ∧ n = (k : Int) + 1) ∨ ¬ (1 ≤ n ∧ n ≤ 58):=by
 by_cases h : 1 ≤ n ∧ n ≤ 58
 ·exact .inl ⟨(n - 1).toNat,by omega,by omega⟩
 ·exact .inr h
theorem UE : ((List.range 58).all fun i => decide (1 ≤ (dH.rowAt i).2.2.1 ∧ (dH.rowAt i).2.2.1 ≤ 8 ∧ 0 ≤ (dH.rowAt i).2.1 ∧ (dH.rowAt i).2.1 ≤ 6)) = true:=by kernel_rfl
theorem Lc {i : Nat} (hi : i < 58) : 1 ≤ (dH.rowAt i).2.2.1 ∧ (dH.rowAt i).2.2.1 ≤ 8 ∧ 0 ≤ (dH.rowAt i).2.1 ∧ (dH.rowAt i).2.1 ≤ 6:=by
 simpa using List.all_eq_true.1 UE i (List.mem_range.2 hi)
theorem DI (a : Nat) (h : a < 4294967296) : (BitVec.ofInt 32 (a : Int)).toNat = a:=by
 rw [BitVec.ofInt_natCast,BitVec.toNat_ofNat]; exact Nat.mod_eq_of_lt (by omega)
theorem wrap_u32 (a : Nat) (h : a < 4294967296) : IntKind.u32.wrap (a : Int) = a:=by
 simp only [IntKind.wrap,IntKind.bits,IntKind.signed,Bool.false_and]
 simp; omega
theorem Sv (a b : Nat) (ha : a < 4294967296) (hb : b < 4294967296) : Go.bits .and .u32 (a : Int) (b : Int) = ((a &&& b : Nat) : Int):=by
 have hx : a &&& b < 2 ^ 32:=Nat.and_lt_two_pow _ (by omega)
 show IntKind.u32.wrap ((BitVec.ofInt 32 (a : Int) &&& BitVec.ofInt 32 (b : Int)).toNat : Int) = _
 rw [BitVec.toNat_and,DI a ha,DI b hb,wrap_u32 _ (by omega)]
theorem Sr (i : Nat) (x : Int) (hi : i ≤ 31) (hx : 0 ≤ x) (hs : x < 4294967296) : Go.bits .and .u32 x (((2 ^ i - 1 : Nat)) : Int) = x % ((2 ^ i : Nat) : Int):=by
 obtain ⟨a,rfl⟩:=Int.eq_ofNat_of_zero_le hx
 have hp : 2 ^ i ≤ 2 ^ 31:=Nat.pow_le_pow_right (by omega) hi
 rw [Sv a (2 ^ i - 1) (by omega) (by omega),Nat.and_two_pow_sub_one_eq_mod]
 simp
theorem Qw (x : Int) (hx : 0 ≤ x) (hs : x < 4294967296) : Go.bits .and .u32 x 15 = x % 16:=Sr 4 x (by omega) hx hs
theorem Uw (x : Int) (hx : 0 ≤ x) (hs : x < 4294967296) : Go.bits .and .u32 x 65535 = x % 65536:=Sr 16 x (by omega) hx hs
theorem Uu (x : Int) (hx : 0 ≤ x) (hs : x < 4294967296) : Go.bits .and .u32 x 65520 = x % 65536 - x % 16:=by
 obtain ⟨a,rfl⟩:=Int.eq_ofNat_of_zero_le hx
 have h0 : Go.bits .and .u32 (a : Int) ((65520 : Nat) : Int) = _:=Sv a 65520 (by omega) (by omega)
 have h1 : a &&& 65520 = (a % 65536) - a % 16:=by
  have e : a &&& 65535 = a % 65536:=Nat.and_two_pow_sub_one_eq_mod a 16
  have e2 : a &&& 15 = a % 16:=Nat.and_two_pow_sub_one_eq_mod a 4
  have e3 : (a &&& 65520) + (a &&& 15) = a &&& 65535:=by
   have hb : (65535 : Nat) = 65520 ||| 15:=by decide
   rw [hb,Nat.and_or_distrib_left]
   have hdvd : a &&& 65520 = 2 ^ 4 * ((a &&& 65520) / 2 ^ 4):=by
    have : (a &&& 65520) % 2 ^ 4 = 0:=by
     rw [← Nat.and_two_pow_sub_one_eq_mod,Nat.and_assoc]
     simp
    omega
   have hlt : a &&& 15 < 2 ^ 4:=Nat.and_lt_two_pow _ (by omega)
   have:=Nat.two_pow_add_eq_or_of_lt hlt ((a &&& 65520) / 2 ^ 4)
   rw [← hdvd] at this
   exact this
  omega
 rw [show ((65520 : Nat) : Int) = 65520 from rfl] at h0
 rw [h0,h1]
 omega
def enc (o a b c m : Int) : Int:=o * 16777216 + a * 1048576 + b * 65536 + m % 65536 + c
theorem SY {a b c m s : Int} (h : jA a b c m s = true) : 0 ≤ a ∧ a < 16 ∧ 0 ≤ b ∧ b < 16 ∧ 0 ≤ c ∧ c < 16 ∧ (c = 0 ∨ m = 0) ∧ -32768 ≤ m ∧ m < 65536:=by
 unfold jA reg at h
 split at h
 ·simp at h; omega
 ·split at h
  ·simp at h; omega
  ·split at h
   ·simp at h; omega
   ·split at h
    ·simp at h; omega
    ·simp at h; omega
theorem XI (n : Int) (h : Bool) : iR.f n h = some (n == 0 || (h && (decide (0 < n) && decide (n < 16)))):=by
 unfold iR.f
 by_cases h0 : n = 0
 ·simp [h0]
 ·rw [if_neg h0]
  cases h
  ·simp [h0]
  ·by_cases h1 : n > 0
   ·simp [h0,h1]
   ·simp [h0,h1]
theorem Wj (s : Int) : bK.f s = some (decide (s = 1 ∨ s = 2 ∨ s = 3 ∨ s = 5 ∨ s = 6),decide (s = 2 ∨ s = 3),decide (s = 3),if s = 6 then -32768 else 0,if s = 4 ∨ s = 5 then 65535 else if s = 6 then 32767 else 0):=by
 unfold bK.f
 by_cases h1 : s = 1; · subst h1; rfl
 by_cases h2 : s = 2; · subst h2; rfl
 by_cases h3 : s = 3; · subst h3; rfl
 by_cases h4 : s = 4; · subst h4; rfl
 by_cases h5 : s = 5; · subst h5; rfl
 by_cases h6 : s = 6; · subst h6; rfl
 simp [h1,h2,h3,h4,h5,h6]
def dA (w : Int) : Int:=w / 1048576 % 16
def dB (w : Int) : Int:=w / 65536 % 16
def dC (w s : Int) : Int:=if s = 3 then w % 16 else 0
def dM (w s : Int) : Int:=if s = 6 then (if 32768 ≤ w % 65536 then w % 65536 - 65536 else w % 65536) else if s = 3 then w % 65536 - w % 16 else w % 65536
theorem Ye (w : Int) : IntKind.i16.wrap w = if 32768 ≤ w % 65536 then w % 65536 - 65536 else w % 65536:=by
 simp only [IntKind.wrap,IntKind.bits,IntKind.signed]
 simp
theorem CG (k : Nat) (hk : k < 58) (w : Int) (h0 : 0 ≤ w) (h1 : w < 4294967296) (ho : w / 16777216 = (k : Int) + 1) :
  dQ.f w = some (if jA (dA w) (dB w) (dC w (dH.rowAt k).2.1) (dM w (dH.rowAt k).2.1) (dH.rowAt k).2.1 = true then ((k : Int) + 1,dA w,dB w,dC w (dH.rowAt k).2.1,dM w (dH.rowAt k).2.1,0) else (0,0,0,0,0,61)):=by
 unfold dQ.f jg.f
 have hw : wrap64 (w / 16777216) = (k : Int) + 1:=by rw [ho]; unfold wrap64; omega
 rw [hw,Lr k hk]
 rw [Qw (w / 1048576) (by omega) (by omega),Qw (w / 65536) (by omega) (by omega),Qw w h0 h1,Uw w h0 h1,Uu w h0 h1,Ye]
 generalize (dH.rowAt k).2.1 = s
 have e1 : wrap64 (w / 1048576 % 16) = dA w:=by unfold wrap64 dA; omega
 have e2 : wrap64 (w / 65536 % 16) = dB w:=by unfold wrap64 dB; omega
 have e3 : wrap64 (w % 16) = w % 16:=by unfold wrap64; omega
 have e4 : wrap64 (w % 65536 - w % 16) = w % 65536 - w % 16:=by unfold wrap64; omega
 have e5 : wrap64 (w % 65536) = w % 65536:=by unfold wrap64; omega
 have e6 : wrap64 (if 32768 ≤ w % 65536 then w % 65536 - 65536 else w % 65536) = (if 32768 ≤ w % 65536 then w % 65536 - 65536 else w % 65536):=by split <;> (unfold wrap64; omega)
 simp only [Option.bind_some,if_true,e1,e2,e3,e4,e5,e6]
 by_cases s6 : s = 6
 ·subst s6
  simp only [dC,dM]
  simp
  repeat' split
  all_goals rfl
 ·by_cases s3 : s = 3
  ·subst s3
   simp only [dC,dM]
   simp
   repeat' split
   all_goals rfl
  ·rw [if_neg s6,if_neg s3]
   simp only [dC,dM,s6,s3,if_false]
   repeat' split
   all_goals rfl
theorem BP (w : Int) (h0 : 0 ≤ w) (h1 : w < 4294967296) (h : ¬ (1 ≤ w / 16777216 ∧ w / 16777216 ≤ 58)) : dQ.f w = some (0,0,0,0,0,60):=by
 unfold dQ.f
 have hw : wrap64 (w / 16777216) = w / 16777216:=by unfold wrap64; omega
 rw [hw,UF _ h]
 simp
end Go.Proofs.YtdbpglhdicmhhaaGreatDoor.Q
end

section
namespace Go.Proofs.YtdbpglhdicmhhaaGreatDoor.GA
open Go.RowKit Go.Proofs.YtdbpglhdicmhhaaGreatDoorW.aI Go.Proofs.YtdbpglhdicmhhaaGreatDoorW.aX Go.Proofs.YtdbpglhdicmhhaaGreatDoorW.aZ
def dF.f (a0 : Int) : Option (Int × Bool):=if a0 = 1 then (some (1,false)) else (if a0 = 2 then (some (2,false)) else (if a0 = 3 then (some (3,false)) else (if a0 = 4 then (some (0,true)) else (if a0 = 5 then (some (1,true)) else (if a0 = 6 then (some (1,true)) else (some (0,false)))))))
theorem dF.calls (a0 : Int) (r1 : Int) (r2 : Bool) (w : World) (h : dF.f a0 = some (r1,r2)) :
  Calls Tryz.prog 37 #[.int .i64 a0] w fun e w' => e = .returned (.tuple #[.int .i64 r1,.bool r2]) ∧ aV w w':=by
 have H : (if a0 = 1 then (some (1,false)) else (if a0 = 2 then (some (2,false)) else (if a0 = 3 then (some (3,false)) else (if a0 = 4 then (some (0,true)) else (if a0 = 5 then (some (1,true)) else (if a0 = 6 then (some (1,true)) else (some (0,false)))))))) = some (r1,r2):=h
 clear h
 by_cases c2 : a0 = 1
 ·rw [if_pos c2] at H
  have DT : (a0 == 1) = true:=beq_iff_eq.mpr c2
  have QC : (a0 != 1) = false:=bne_eq_false_iff_eq.mpr c2
  clear c2
  simp only [Option.some.injEq,Prod.mk.injEq] at H
  obtain ⟨rfl,rfl⟩:=H
  go_enter Tryz.func37,Tryz.ntmps37
  go_wp2
  go_ret2
  exact ⟨by first | rfl | (simp; done) | (simp [*]; done),by repeat (first | exact aV.refl _ | apply aV.step)⟩
 ·rw [if_neg c2] at H
  have DT : (a0 == 1) = false:=beq_eq_false_iff_ne.mpr c2
  have QC : (a0 != 1) = true:=bne_iff_ne.mpr c2
  by_cases c3 : a0 = 2
  ·rw [if_pos c3] at H
   have rC : (a0 == 2) = true:=beq_iff_eq.mpr c3
   have Ag : (a0 != 2) = false:=bne_eq_false_iff_eq.mpr c3
   clear c3
   simp only [Option.some.injEq,Prod.mk.injEq] at H
   obtain ⟨rfl,rfl⟩:=H
   go_enter Tryz.func37,Tryz.ntmps37
   go_wp2
   go_ret2
   exact ⟨by first | rfl | (simp; done) | (simp [*]; done),by repeat (first | exact aV.refl _ | apply aV.step)⟩
  ·rw [if_neg c3] at H
   have rC : (a0 == 2) = false:=beq_eq_false_iff_ne.mpr c3
   have Ag : (a0 != 2) = true:=bne_iff_ne.mpr c3
   by_cases c4 : a0 = 3
   ·rw [if_pos c4] at H
    have wU : (a0 == 3) = true:=beq_iff_eq.mpr c4
    have BK : (a0 != 3) = false:=bne_eq_false_iff_eq.mpr c4
    clear c4
    simp only [Option.some.injEq,Prod.mk.injEq] at H
    obtain ⟨rfl,rfl⟩:=H
    go_enter Tryz.func37,Tryz.ntmps37
    go_wp2
    go_ret2
    exact ⟨by first | rfl | (simp; done) | (simp [*]; done),by repeat (first | exact aV.refl _ | apply aV.step)⟩
   ·rw [if_neg c4] at H
    have wU : (a0 == 3) = false:=beq_eq_false_iff_ne.mpr c4
    have BK : (a0 != 3) = true:=bne_iff_ne.mpr c4
    by_cases c5 : a0 = 4
    ·rw [if_pos c5] at H
     have rZ : (a0 == 4) = true:=beq_iff_eq.mpr c5
     have OD : (a0 != 4) = false:=bne_eq_false_iff_eq.mpr c5
     clear c5
     simp only [Option.some.injEq,Prod.mk.injEq] at H
     obtain ⟨rfl,rfl⟩:=H
     go_enter Tryz.func37,Tryz.ntmps37
     go_wp2
     go_ret2
     exact ⟨by first | rfl | (simp; done) | (simp [*]; done),by repeat (first | exact aV.refl _ | apply aV.step)⟩
    ·rw [if_neg c5] at H
     have rZ : (a0 == 4) = false:=beq_eq_false_iff_ne.mpr c5
     have OD : (a0 != 4) = true:=bne_iff_ne.mpr c5
     by_cases c6 : a0 = 5
     ·rw [if_pos c6] at H
      have GY : (a0 == 5) = true:=beq_iff_eq.mpr c6
      have QE : (a0 != 5) = false:=bne_eq_false_iff_eq.mpr c6
      clear c6
      simp only [Option.some.injEq,Prod.mk.injEq] at H
      obtain ⟨rfl,rfl⟩:=H
      go_enter Tryz.func37,Tryz.ntmps37
      go_wp2
      go_ret2
      exact ⟨by first | rfl | (simp; done) | (simp [*]; done),by repeat (first | exact aV.refl _ | apply aV.step)⟩
     ·rw [if_neg c6] at H
      have GY : (a0 == 5) = false:=beq_eq_false_iff_ne.mpr c6
      have QE : (a0 != 5) = true:=bne_iff_ne.mpr c6
      by_cases c7 : a0 = 6
      ·rw [if_pos c7] at H
       have Bg : (a0 == 6) = true:=beq_iff_eq.mpr c7
       have IL : (a0 != 6) = false:=bne_eq_false_iff_eq.mpr c7
       clear c7
       simp only [Option.some.injEq,Prod.mk.injEq] at H
       obtain ⟨rfl,rfl⟩:=H
       go_enter Tryz.func37,Tryz.ntmps37
       go_wp2
       go_ret2
       exact ⟨by first | rfl | (simp; done) | (simp [*]; done),by repeat (first | exact aV.refl _ | apply aV.step)⟩
      ·rw [if_neg c7] at H
       have Bg : (a0 == 6) = false:=beq_eq_false_iff_ne.mpr c7
       have IL : (a0 != 6) = true:=bne_iff_ne.mpr c7
       simp only [Option.some.injEq,Prod.mk.injEq] at H
       obtain ⟨rfl,rfl⟩:=H
       go_enter Tryz.func37,Tryz.ntmps37
       go_wp2
       go_ret2
       exact ⟨by first | rfl | (simp; done) | (simp [*]; done),by repeat (first | exact aV.refl _ | apply aV.step)⟩
end Go.Proofs.YtdbpglhdicmhhaaGreatDoor.GA
end

section
namespace Go.Proofs.YtdbpglhdicmhhaaGreatDoor.qp
open Go.RowKit Go.Shelf
theorem Bl {w : World} (h : TB w) (n : Int) (h0 : -9223372036854775808 ≤ n) (h1 : n ≤ 9223372036854775807) : Calls Tryz.prog 38 #[.int .i64 n] w fun e W' => e = .returned (.string ⟨(Lib.itoa n).toArray⟩) ∧ Below w.heap.size w W' :=
 (Tryz.strconv_Itoa n h0 h1 w (h w (Below.refl _ _))).mono fun e W' ⟨he,k,os,hw⟩ => ⟨he,by rw [hw]; exact Lib.below_grow _ w (Nat.le_refl _) k os⟩
end Go.Proofs.YtdbpglhdicmhhaaGreatDoor.qp
end

section
namespace Go.Proofs.YtdbpglhdicmhhaaGreatDoor.GA
open Go.RowKit Go.Proofs.YtdbpglhdicmhhaaGreatDoorW.aI Go.Proofs.YtdbpglhdicmhhaaGreatDoorW.aX Go.Proofs.YtdbpglhdicmhhaaGreatDoorW.aZ
def eG.f (a0 : Int) : Option (ByteArray):=if -9223372036854775808 ≤ a0 ∧ a0 ≤ 9223372036854775807 then some ⟨(Lib.itoa a0).toArray⟩ else none
theorem eG.calls (a0 : Int) (r : ByteArray) (w : World) (uP : Laid.Af w) (h : eG.f a0 = some r) :
  Calls Tryz.prog 38 #[.int .i64 a0] w fun e w' => e = .returned (.string r) ∧ Below w.heap.size w w':=by
 unfold eG.f at h
 split at h
 ·rename_i hr
  obtain rfl:=Option.some.inj h
  exact qp.Bl uP.2 a0 hr.1 hr.2
 ·cases h
end Go.Proofs.YtdbpglhdicmhhaaGreatDoor.GA
end

section
namespace Go.Proofs.YtdbpglhdicmhhaaGreatDoor.GA
open Go.RowKit Go.Proofs.YtdbpglhdicmhhaaGreatDoorW.aI Go.Proofs.YtdbpglhdicmhhaaGreatDoorW.aX Go.Proofs.YtdbpglhdicmhhaaGreatDoorW.aZ
mutual
def aW.j0 : Nat → Int → Bool → Option (ByteArray)
 | 0,_,_ => none
 | k + 1,x3,x4 => if x4 = true then (some (⟨#[76]⟩ : ByteArray)) else (if x3 = 20 then (aW.j1 k x3 (x3 == 20)) else (aW.j1 k x3 (x3 == 22)))
def aW.j1 : Nat → Int → Bool → Option (ByteArray)
 | 0,_,_ => none
 | k + 1,x3,x8 => if x8 = true then (some (⟨#[102]⟩ : ByteArray)) else (if x3 = 34 then (some (⟨#[116]⟩ : ByteArray)) else (some (⟨#[]⟩ : ByteArray)))
end
def aW.f (k : Nat) (a0 : Int) : Option (ByteArray):=if a0 = 17 then (aW.j0 k a0 (a0 == 17)) else (if a0 = 18 then (aW.j0 k a0 (a0 == 18)) else (aW.j0 k a0 (a0 == 19)))
theorem aW.BZ : ∀ k,(∀ y0 y1,rH (aW.j0 k y0 y1) (aW.j0 (k + 1) y0 y1)) ∧ (∀ y0 y1,rH (aW.j1 k y0 y1) (aW.j1 (k + 1) y0 y1))
 | 0 => ⟨fun _ _ r h => by simp [aW.j0] at h,fun _ _ r h => by simp [aW.j1] at h⟩
 | k + 1 => by
  obtain ⟨O8,ih1⟩:=aW.BZ k
  refine ⟨?_,?_⟩
  ·intro y0 y1
   unfold aW.j0
   repeat' first
   | (with_reducible exact O8 _ _)
   | (with_reducible exact ih1 _ _)
   | (with_reducible exact rH.refl _)
   | (with_reducible exact rH.none _)
   | (with_reducible refine rH.ite ?_ ?_)
   | (with_reducible refine rH.bind ?_ (fun _ => ?_))
   | exact O8 _ _
   | exact ih1 _ _
   | exact rH.none _
   | refine rH.ite ?_ ?_
   | refine rH.bind ?_ (fun _ => ?_)
  ·intro y0 y1
   unfold aW.j1
   repeat' first
   | (with_reducible exact O8 _ _)
   | (with_reducible exact ih1 _ _)
   | (with_reducible exact rH.refl _)
   | (with_reducible exact rH.none _)
   | (with_reducible refine rH.ite ?_ ?_)
   | (with_reducible refine rH.bind ?_ (fun _ => ?_))
   | exact O8 _ _
   | exact ih1 _ _
   | exact rH.none _
   | refine rH.ite ?_ ?_
   | refine rH.bind ?_ (fun _ => ?_)
theorem aW.mono : ∀ a0 k,rH (aW.f k a0) (aW.f (k + 1) a0):=by
 intro a0 k
 obtain ⟨O8,ih1⟩:=aW.BZ k
 unfold aW.f
 repeat' first
   | (with_reducible exact O8 _ _)
   | (with_reducible exact ih1 _ _)
   | (with_reducible exact rH.refl _)
   | (with_reducible exact rH.none _)
   | (with_reducible refine rH.ite ?_ ?_)
   | (with_reducible refine rH.bind ?_ (fun _ => ?_))
   | exact O8 _ _
   | exact ih1 _ _
   | exact rH.none _
   | refine rH.ite ?_ ?_
   | refine rH.bind ?_ (fun _ => ?_)
theorem aW.calls (k : Nat) (a0 : Int) (r : ByteArray) (w : World) (h : aW.f k a0 = some r) :
  Calls Tryz.prog 39 #[.int .i64 a0] w fun e w' => e = .returned (.string r) ∧ aV w w':=by
 have H : (if a0 = 17 then (aW.j0 k a0 (a0 == 17)) else (if a0 = 18 then (aW.j0 k a0 (a0 == 18)) else (aW.j0 k a0 (a0 == 19)))) = some r:=h
 clear h
 have HC2:=ah.mk H
 clear H
 go_enter Tryz.func39,Tryz.ntmps39
 go_upto_if 4 with (fail)
 go_cut [4] (fun v4 wc => ∃ (kq : Nat) (jE : Bool),v4 = .bool jE ∧ ah (aW.j0 kq a0 jE = some r) ∧ ah (kq ≤ k) ∧ aV w wc)
 case first =>
  have H:=HC2.out
  clear HC2
  by_cases c3 : a0 = 17
  ·rw [if_pos c3] at H
   have rC : (a0 == 17) = true:=beq_iff_eq.mpr c3
   have Ag : (a0 != 17) = false:=bne_eq_false_iff_eq.mpr c3
   clear c3
   (first | rw [rC] | (simp only [fJ,fH]; rw [rC]) | skip)
   have H':=ah.mk H
   clear H
   go_wp2
   go_meet
   case rel => exact ⟨_,((a0 == 17)),(by first | rfl | (simp; done) | (simp [*]; done)),H',⟨by first | omega | exact Nat.le_refl _⟩,by repeat (first | exact aV.refl _ | apply aV.step)⟩
  ·rw [if_neg c3] at H
   have rC : (a0 == 17) = false:=beq_eq_false_iff_ne.mpr c3
   have Ag : (a0 != 17) = true:=bne_iff_ne.mpr c3
   (first | rw [rC] | (simp only [fJ,fH]; rw [rC]) | skip)
   by_cases c4 : a0 = 18
   ·rw [if_pos c4] at H
    have wU : (a0 == 18) = true:=beq_iff_eq.mpr c4
    have BK : (a0 != 18) = false:=bne_eq_false_iff_eq.mpr c4
    clear c4
    have H':=ah.mk H
    clear H
    go_wp2
    go_meet
    case rel => exact ⟨_,((a0 == 18)),(by first | rfl | (simp; done) | (simp [*]; done)),H',⟨by first | omega | exact Nat.le_refl _⟩,by repeat (first | exact aV.refl _ | apply aV.step)⟩
   ·rw [if_neg c4] at H
    have wU : (a0 == 18) = false:=beq_eq_false_iff_ne.mpr c4
    have BK : (a0 != 18) = true:=bne_iff_ne.mpr c4
    have H':=ah.mk H
    clear H
    go_wp2
    go_meet
    case rel => exact ⟨_,((a0 == 19)),(by first | rfl | (simp; done) | (simp [*]; done)),H',⟨by first | omega | exact Nat.le_refl _⟩,by repeat (first | exact aV.refl _ | apply aV.step)⟩
 case rest =>
  clear HC2
  try clear p2
  try clear c3
  try clear rC
  try clear Ag
  try clear c4
  try clear wU
  try clear BK
  obtain ⟨kq,jE,rfl,HA,Uj,⟨mc1,rfl⟩⟩:=hcut
  cases kq with
  | zero => exact absurd HA.out (by simp [aW.j0])
  | succ TN =>
   have H:=HA.out
   clear HA
   simp only [aW.j0] at H
   by_cases c5 : jE = true
   ·subst c5
    have H1 : (some (⟨#[76]⟩ : ByteArray)) = some r:=by rw [if_pos rfl] at H; exact H
    clear H
    have H:=H1
    clear H1
    obtain rfl:=Option.some.inj H
    go_wp2
    go_ret
    exact ⟨by first | rfl | (simp; done) | (simp [*]; done),by repeat (first | exact aV.refl _ | apply aV.step)⟩
   ·replace c5:=Bool.eq_false_iff.mpr c5
    subst c5
    have H1 : (if a0 = 20 then (aW.j1 TN a0 (a0 == 20)) else (aW.j1 TN a0 (a0 == 22))) = some r:=by rw [if_neg (show ¬ (false = true) by decide)] at H; exact H
    clear H
    have H:=H1
    clear H1
    have HC6:=ah.mk H
    clear H
    go_upto_if 8 with (fail)
    go_cut [8] (fun v8 wc => ∃ (kq : Nat) (N8 : Bool),v8 = .bool N8 ∧ ah (aW.j1 kq a0 N8 = some r) ∧ ah (kq ≤ TN) ∧ aV w wc)
    case first =>
     have H:=HC6.out
     clear HC6
     by_cases c7 : a0 = 20
     ·rw [if_pos c7] at H
      have Bg : (a0 == 20) = true:=beq_iff_eq.mpr c7
      have IL : (a0 != 20) = false:=bne_eq_false_iff_eq.mpr c7
      clear c7
      (first | rw [Bg] | (simp only [fJ,fH]; rw [Bg]) | skip)
      have H':=ah.mk H
      clear H
      go_wp2
      go_meet
      case rel => exact ⟨_,((a0 == 20)),(by first | rfl | (simp; done) | (simp [*]; done)),H',⟨by have:=Uj.out; first | omega | exact Nat.le_refl _⟩,by repeat (first | exact aV.refl _ | apply aV.step)⟩
     ·rw [if_neg c7] at H
      have Bg : (a0 == 20) = false:=beq_eq_false_iff_ne.mpr c7
      have IL : (a0 != 20) = true:=bne_iff_ne.mpr c7
      (first | rw [Bg] | (simp only [fJ,fH]; rw [Bg]) | skip)
      have H':=ah.mk H
      clear H
      go_wp2
      go_meet
      case rel => exact ⟨_,((a0 == 22)),(by first | rfl | (simp; done) | (simp [*]; done)),H',⟨by have:=Uj.out; first | omega | exact Nat.le_refl _⟩,by repeat (first | exact aV.refl _ | apply aV.step)⟩
    case rest =>
     clear HC6
     try clear c1
     try clear p2
     try clear c3
     try clear rC
     try clear Ag
     try clear c4
     try clear wU
     try clear BK
     try clear c5
     try clear c7
     try clear Bg
     try clear IL
     try clear p2
     obtain ⟨kq,N8,rfl,HA,HJ5,⟨mc5,rfl⟩⟩:=hcut
     cases kq with
     | zero => exact absurd HA.out (by simp [aW.j1])
     | succ kj5 =>
      have H:=HA.out
      clear HA
      simp only [aW.j1] at H
      by_cases c8 : N8 = true
      ·subst c8
       have H1 : (some (⟨#[102]⟩ : ByteArray)) = some r:=by rw [if_pos rfl] at H; exact H
       clear H
       have H:=H1
       clear H1
       obtain rfl:=Option.some.inj H
       go_wp2
       go_ret
       exact ⟨by first | rfl | (simp; done) | (simp [*]; done),by repeat (first | exact aV.refl _ | apply aV.step)⟩
      ·replace c8:=Bool.eq_false_iff.mpr c8
       subst c8
       have H1 : (if a0 = 34 then (some (⟨#[116]⟩ : ByteArray)) else (some (⟨#[]⟩ : ByteArray))) = some r:=by rw [if_neg (show ¬ (false = true) by decide)] at H; exact H
       clear H
       have H:=H1
       clear H1
       by_cases c9 : a0 = 34
       ·rw [if_pos c9] at H
        have GZ : (a0 == 34) = true:=beq_iff_eq.mpr c9
        have abJ : (a0 != 34) = false:=bne_eq_false_iff_eq.mpr c9
        clear c9
        obtain rfl:=Option.some.inj H
        go_wp2
        go_ret
        exact ⟨by first | rfl | (simp; done) | (simp [*]; done),by repeat (first | exact aV.refl _ | apply aV.step)⟩
       ·rw [if_neg c9] at H
        have GZ : (a0 == 34) = false:=beq_eq_false_iff_ne.mpr c9
        have abJ : (a0 != 34) = true:=bne_iff_ne.mpr c9
        obtain rfl:=Option.some.inj H
        go_wp2
        go_ret
        exact ⟨by first | rfl | (simp; done) | (simp [*]; done),by repeat (first | exact aV.refl _ | apply aV.step)⟩
end Go.Proofs.YtdbpglhdicmhhaaGreatDoor.GA
end
