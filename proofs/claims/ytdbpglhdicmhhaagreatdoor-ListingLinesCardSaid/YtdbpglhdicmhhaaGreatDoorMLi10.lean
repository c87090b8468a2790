import Derived.Test.YtdbpglhdicmhhaaGreatDoorMLi4
import Derived.Test.YtdbpglhdicmhhaaGreatDoorMLi6
import Derived.Test.YtdbpglhdicmhhaaGreatDoorMLi7
import Derived.Test.YtdbpglhdicmhhaaGreatDoorMLi8
import Derived.Test.YtdbpglhdicmhhaaGreatDoorMLi9
import Derived.Shelf.Strings.Builder1
import Derived.Shelf.Strconv.Itoa1
import Derived.Shelf.Strconv.Itoa2
import Derived.Shelf.Strconv.Itoa3
import Derived.Test.YtdbpglhdicmhhaaGreatDoorProg
import Derived.Test.YtdbpglhdicmhhaaGreatDoorMLi5
import Derived.Lib.AppendIntMem
set_option linter.unusedVariables false
set_option linter.unusedSimpArgs false
section
namespace Go.Proofs.YtdbpglhdicmhhaaGreatDoor.Q
open Go.RowKit Go.Proofs.YtdbpglhdicmhhaaGreatDoor.GA Go.Proofs.YtdbpglhdicmhhaaGreatDoor.Hfits Go.Proofs.YtdbpglhdicmhhaaGreatDoor.Hfind
def star (s : ByteArray) : ByteArray:=if s.data.toList = [97,108,108] then ⟨#[42]⟩ else s
theorem table_rows : (List.range 58).map (fun k : Nat => rotaref06_table.f ((k : Int) + 1)) =
  (List.range 58).map (fun k : Nat => some ((Hfind.rowAt k).1,(Hfind.rowAt k).2.1,(Hfind.rowAt k).2.2.1,star (Hfind.rowAt k).2.2.2.1,star (Hfind.rowAt k).2.2.2.2,true)):=by kernel_rfl
theorem table_in (k : Nat) (hk : k < 58) : rotaref06_table.f ((k : Int) + 1) = some ((Hfind.rowAt k).1,(Hfind.rowAt k).2.1,(Hfind.rowAt k).2.2.1,star (Hfind.rowAt k).2.2.2.1,star (Hfind.rowAt k).2.2.2.2,true) :=
 of_range 58 (fun k : Nat => rotaref06_table.f ((k : Int) + 1)) _ table_rows k hk
theorem find_at (k : Nat) (hk : k < 58) : word_find.f ((k : Int) + 1) = some ((Hfind.rowAt k).1,(Hfind.rowAt k).2.1,(Hfind.rowAt k).2.2.1,(Hfind.rowAt k).2.2.2.1,(Hfind.rowAt k).2.2.2.2,0):=by
 unfold word_find.f
 rw [if_pos (by omega),show ((k : Int) + 1 - 1).toNat = k from by omega]
theorem find_else (n : Int) (h : ¬ (1 ≤ n ∧ n ≤ 58)) : word_find.f n = some (⟨#[]⟩,0,0,⟨#[]⟩,⟨#[]⟩,60):=by
 unfold word_find.f
 rw [if_neg h]
set_option maxRecDepth 10000 in
theorem table_else (n : Int) (h : ¬ (1 ≤ n ∧ n ≤ 58)) : rotaref06_table.f n = some (⟨#[]⟩,0,0,⟨#[]⟩,⟨#[]⟩,false):=by
 have h1 : rotaref06_later.f n = some (⟨#[]⟩,0,0,⟨#[]⟩,⟨#[]⟩,false):=by
  unfold rotaref06_later.f
  iterate 29 rw [if_neg (by omega)]
 unfold rotaref06_table.f
 iterate 29 rw [if_neg (by omega)]
 rw [h1]
 rfl
theorem in_or (n : Int) : (∃ k : Nat,k < 58 ∧ n = (k : Int) + 1) ∨ ¬ (1 ≤ n ∧ n ≤ 58):=by
 by_cases h : 1 ≤ n ∧ n ≤ 58
 ·exact .inl ⟨(n - 1).toNat,by omega,by omega⟩
 ·exact .inr h
theorem costs_all : ((List.range 58).all fun i => decide (1 ≤ (Hfind.rowAt i).2.2.1 ∧ (Hfind.rowAt i).2.2.1 ≤ 8 ∧ 0 ≤ (Hfind.rowAt i).2.1 ∧ (Hfind.rowAt i).2.1 ≤ 6)) = true:=by kernel_rfl
theorem cost_at {i : Nat} (hi : i < 58) : 1 ≤ (Hfind.rowAt i).2.2.1 ∧ (Hfind.rowAt i).2.2.1 ≤ 8 ∧ 0 ≤ (Hfind.rowAt i).2.1 ∧ (Hfind.rowAt i).2.1 ≤ 6:=by
 simpa using List.all_eq_true.1 costs_all i (List.mem_range.2 hi)
theorem toNat_ofInt32 (a : Nat) (h : a < 4294967296) : (BitVec.ofInt 32 (a : Int)).toNat = a:=by
 rw [BitVec.ofInt_natCast,BitVec.toNat_ofNat]; exact Nat.mod_eq_of_lt (by omega)
theorem wrap_u32 (a : Nat) (h : a < 4294967296) : IntKind.u32.wrap (a : Int) = a:=by
 simp only [IntKind.wrap,IntKind.bits,IntKind.signed,Bool.false_and]
 simp; omega
theorem and_nat (a b : Nat) (ha : a < 4294967296) (hb : b < 4294967296) : Go.bits .and .u32 (a : Int) (b : Int) = ((a &&& b : Nat) : Int):=by
 have hx : a &&& b < 2 ^ 32:=Nat.and_lt_two_pow _ (by omega)
 show IntKind.u32.wrap ((BitVec.ofInt 32 (a : Int) &&& BitVec.ofInt 32 (b : Int)).toNat : Int) = _
 rw [BitVec.toNat_and,toNat_ofInt32 a ha,toNat_ofInt32 b hb,wrap_u32 _ (by omega)]
theorem and_mod (i : Nat) (x : Int) (hi : i ≤ 31) (hx : 0 ≤ x) (hs : x < 4294967296) : Go.bits .and .u32 x (((2 ^ i - 1 : Nat)) : Int) = x % ((2 ^ i : Nat) : Int):=by
 obtain ⟨a,rfl⟩:=Int.eq_ofNat_of_zero_le hx
 have hp : 2 ^ i ≤ 2 ^ 31:=Nat.pow_le_pow_right (by omega) hi
 rw [and_nat a (2 ^ i - 1) (by omega) (by omega),Nat.and_two_pow_sub_one_eq_mod]
 simp
theorem and_15 (x : Int) (hx : 0 ≤ x) (hs : x < 4294967296) : Go.bits .and .u32 x 15 = x % 16:=and_mod 4 x (by omega) hx hs
theorem and_65535 (x : Int) (hx : 0 ≤ x) (hs : x < 4294967296) : Go.bits .and .u32 x 65535 = x % 65536:=and_mod 16 x (by omega) hx hs
theorem and_65520 (x : Int) (hx : 0 ≤ x) (hs : x < 4294967296) : Go.bits .and .u32 x 65520 = x % 65536 - x % 16:=by
 obtain ⟨a,rfl⟩:=Int.eq_ofNat_of_zero_le hx
 have h0 : Go.bits .and .u32 (a : Int) ((65520 : Nat) : Int) = _:=and_nat a 65520 (by omega) (by omega)
 have h1 : a &&& 65520 = (a % 65536) - a % 16:=by
  have e : a &&& 65535 = a % 65536:=Nat.and_two_pow_sub_one_eq_mod a 16
  have e2 : a &&& 15 = a % 16:=Nat.and_two_pow_sub_one_eq_mod a 4
  have e3 : (a &&& 65520) + (a &&& 15) = a &&& 65535:=by
   have hb : (65535 : Nat) = 65520 ||| 15:=by decide
   rw [hb,Nat.and_or_distrib_left]
   have hdvd : a &&& 65520 = 2 ^ 4 * ((a &&& 65520) / 2 ^ 4):=by
    have : (a &&& 65520) % 2 ^ 4 = 0:=by
     rw [← Nat.and_two_pow_sub_one_eq_mod,Nat.and_assoc]
     simp
    omega
   have hlt : a &&& 15 < 2 ^ 4:=Nat.and_lt_two_pow _ (by omega)
   have:=Nat.two_pow_add_eq_or_of_lt hlt ((a &&& 65520) / 2 ^ 4)
   rw [← hdvd] at this
   exact this
  omega
 rw [show ((65520 : Nat) : Int) = 65520 from rfl] at h0
 rw [h0,h1]
 omega
def enc (o a b c m : Int) : Int:=o * 16777216 + a * 1048576 + b * 65536 + m % 65536 + c
theorem fits_bd {a b c m s : Int} (h : fitsB a b c m s = true) : 0 ≤ a ∧ a < 16 ∧ 0 ≤ b ∧ b < 16 ∧ 0 ≤ c ∧ c < 16 ∧ (c = 0 ∨ m = 0) ∧ -32768 ≤ m ∧ m < 65536:=by
 unfold fitsB reg at h
 split at h
 ·simp at h; omega
 ·split at h
  ·simp at h; omega
  ·split at h
   ·simp at h; omega
   ·split at h
    ·simp at h; omega
    ·simp at h; omega
theorem ref_fits (n : Int) (h : Bool) : rotaref06_fits.f n h = some (n == 0 || (h && (decide (0 < n) && decide (n < 16)))):=by
 unfold rotaref06_fits.f
 by_cases h0 : n = 0
 ·simp [h0]
 ·rw [if_neg h0]
  cases h
  ·simp [h0]
  ·by_cases h1 : n > 0
   ·simp [h0,h1]
   ·simp [h0,h1]
theorem has_at (s : Int) : rotaref06_Has.f s = some (decide (s = 1 ∨ s = 2 ∨ s = 3 ∨ s = 5 ∨ s = 6),decide (s = 2 ∨ s = 3),decide (s = 3),if s = 6 then -32768 else 0,if s = 4 ∨ s = 5 then 65535 else if s = 6 then 32767 else 0):=by
 unfold rotaref06_Has.f
 by_cases h1 : s = 1; · subst h1; rfl
 by_cases h2 : s = 2; · subst h2; rfl
 by_cases h3 : s = 3; · subst h3; rfl
 by_cases h4 : s = 4; · subst h4; rfl
 by_cases h5 : s = 5; · subst h5; rfl
 by_cases h6 : s = 6; · subst h6; rfl
 simp [h1,h2,h3,h4,h5,h6]
def dA (w : Int) : Int:=w / 1048576 % 16
def dB (w : Int) : Int:=w / 65536 % 16
def dC (w s : Int) : Int:=if s = 3 then w % 16 else 0
def dM (w s : Int) : Int:=if s = 6 then (if 32768 ≤ w % 65536 then w % 65536 - 65536 else w % 65536) else if s = 3 then w % 65536 - w % 16 else w % 65536
theorem wrap_i16 (w : Int) : IntKind.i16.wrap w = if 32768 ≤ w % 65536 then w % 65536 - 65536 else w % 65536:=by
 simp only [IntKind.wrap,IntKind.bits,IntKind.signed]
 simp
theorem word_decode (k : Nat) (hk : k < 58) (w : Int) (h0 : 0 ≤ w) (h1 : w < 4294967296) (ho : w / 16777216 = (k : Int) + 1) :
  word_Decode.f w = some (if fitsB (dA w) (dB w) (dC w (Hfind.rowAt k).2.1) (dM w (Hfind.rowAt k).2.1) (Hfind.rowAt k).2.1 = true then ((k : Int) + 1,dA w,dB w,dC w (Hfind.rowAt k).2.1,dM w (Hfind.rowAt k).2.1,0) else (0,0,0,0,0,61)):=by
 unfold word_Decode.f word_fits.f
 have hw : wrap64 (w / 16777216) = (k : Int) + 1:=by rw [ho]; unfold wrap64; omega
 rw [hw,find_at k hk]
 rw [and_15 (w / 1048576) (by omega) (by omega),and_15 (w / 65536) (by omega) (by omega),and_15 w h0 h1,and_65535 w h0 h1,and_65520 w h0 h1,wrap_i16]
 generalize (Hfind.rowAt k).2.1 = s
 have e1 : wrap64 (w / 1048576 % 16) = dA w:=by unfold wrap64 dA; omega
 have e2 : wrap64 (w / 65536 % 16) = dB w:=by unfold wrap64 dB; omega
 have e3 : wrap64 (w % 16) = w % 16:=by unfold wrap64; omega
 have e4 : wrap64 (w % 65536 - w % 16) = w % 65536 - w % 16:=by unfold wrap64; omega
 have e5 : wrap64 (w % 65536) = w % 65536:=by unfold wrap64; omega
 have e6 : wrap64 (if 32768 ≤ w % 65536 then w % 65536 - 65536 else w % 65536) = (if 32768 ≤ w % 65536 then w % 65536 - 65536 else w % 65536):=by split <;> (unfold wrap64; omega)
 simp only [Option.bind_some,if_true,e1,e2,e3,e4,e5,e6]
 by_cases s6 : s = 6
 ·subst s6
  simp only [dC,dM]
  simp
  repeat' split
  all_goals rfl
 ·by_cases s3 : s = 3
  ·subst s3
   simp only [dC,dM]
   simp
   repeat' split
   all_goals rfl
  ·rw [if_neg s6,if_neg s3]
   simp only [dC,dM,s6,s3,if_false]
   repeat' split
   all_goals rfl
theorem decode_else (w : Int) (h0 : 0 ≤ w) (h1 : w < 4294967296) (h : ¬ (1 ≤ w / 16777216 ∧ w / 16777216 ≤ 58)) : word_Decode.f w = some (0,0,0,0,0,60):=by
 unfold word_Decode.f
 have hw : wrap64 (w / 16777216) = w / 16777216:=by unfold wrap64; omega
 rw [hw,find_else _ h]
 simp
end Go.Proofs.YtdbpglhdicmhhaaGreatDoor.Q
end

section
namespace Go.Proofs.YtdbpglhdicmhhaaGreatDoor.GA
open Go.RowKit Go.Proofs.YtdbpglhdicmhhaaGreatDoorW.PrintWords Go.Proofs.YtdbpglhdicmhhaaGreatDoorW.PrintLast Go.Proofs.YtdbpglhdicmhhaaGreatDoorW.PrintMore
def listing_fields.f (a0 : Int) : Option (Int × Bool):=if a0 = 1 then (some (1,false)) else (if a0 = 2 then (some (2,false)) else (if a0 = 3 then (some (3,false)) else (if a0 = 4 then (some (0,true)) else (if a0 = 5 then (some (1,true)) else (if a0 = 6 then (some (1,true)) else (some (0,false)))))))
set_option maxHeartbeats 8000000 in
set_option maxRecDepth 100000 in
theorem listing_fields.calls (a0 : Int) (r1 : Int) (r2 : Bool) (w : World) (h : listing_fields.f a0 = some (r1,r2)) :
  Calls Tryz.prog 37 #[.int .i64 a0] w fun e w' => e = .returned (.tuple #[.int .i64 r1,.bool r2]) ∧ Drawn0 w w':=by
 have H : (if a0 = 1 then (some (1,false)) else (if a0 = 2 then (some (2,false)) else (if a0 = 3 then (some (3,false)) else (if a0 = 4 then (some (0,true)) else (if a0 = 5 then (some (1,true)) else (if a0 = 6 then (some (1,true)) else (some (0,false)))))))) = some (r1,r2):=h
 clear h
 by_cases c2 : a0 = 1
 ·rw [if_pos c2] at H
  have c2b0 : (a0 == 1) = true:=beq_iff_eq.mpr c2
  have c2b1 : (a0 != 1) = false:=bne_eq_false_iff_eq.mpr c2
  clear c2
  simp only [Option.some.injEq,Prod.mk.injEq] at H
  obtain ⟨rfl,rfl⟩:=H
  go_enter Tryz.func37,Tryz.ntmps37
  go_wp2
  go_ret2
  exact ⟨by first | rfl | (simp; done) | (simp [*]; done),by repeat (first | exact Drawn0.refl _ | apply Drawn0.step)⟩
 ·rw [if_neg c2] at H
  have c2b0 : (a0 == 1) = false:=beq_eq_false_iff_ne.mpr c2
  have c2b1 : (a0 != 1) = true:=bne_iff_ne.mpr c2
  by_cases c3 : a0 = 2
  ·rw [if_pos c3] at H
   have c3b0 : (a0 == 2) = true:=beq_iff_eq.mpr c3
   have c3b1 : (a0 != 2) = false:=bne_eq_false_iff_eq.mpr c3
   clear c3
   simp only [Option.some.injEq,Prod.mk.injEq] at H
   obtain ⟨rfl,rfl⟩:=H
   go_enter Tryz.func37,Tryz.ntmps37
   go_wp2
   go_ret2
   exact ⟨by first | rfl | (simp; done) | (simp [*]; done),by repeat (first | exact Drawn0.refl _ | apply Drawn0.step)⟩
  ·rw [if_neg c3] at H
   have c3b0 : (a0 == 2) = false:=beq_eq_false_iff_ne.mpr c3
   have c3b1 : (a0 != 2) = true:=bne_iff_ne.mpr c3
   by_cases c4 : a0 = 3
   ·rw [if_pos c4] at H
    have c4b0 : (a0 == 3) = true:=beq_iff_eq.mpr c4
    have c4b1 : (a0 != 3) = false:=bne_eq_false_iff_eq.mpr c4
    clear c4
    simp only [Option.some.injEq,Prod.mk.injEq] at H
    obtain ⟨rfl,rfl⟩:=H
    go_enter Tryz.func37,Tryz.ntmps37
    go_wp2
    go_ret2
    exact ⟨by first | rfl | (simp; done) | (simp [*]; done),by repeat (first | exact Drawn0.refl _ | apply Drawn0.step)⟩
   ·rw [if_neg c4] at H
    have c4b0 : (a0 == 3) = false:=beq_eq_false_iff_ne.mpr c4
    have c4b1 : (a0 != 3) = true:=bne_iff_ne.mpr c4
    by_cases c5 : a0 = 4
    ·rw [if_pos c5] at H
     have c5b0 : (a0 == 4) = true:=beq_iff_eq.mpr c5
     have c5b1 : (a0 != 4) = false:=bne_eq_false_iff_eq.mpr c5
     clear c5
     simp only [Option.some.injEq,Prod.mk.injEq] at H
     obtain ⟨rfl,rfl⟩:=H
     go_enter Tryz.func37,Tryz.ntmps37
     go_wp2
     go_ret2
     exact ⟨by first | rfl | (simp; done) | (simp [*]; done),by repeat (first | exact Drawn0.refl _ | apply Drawn0.step)⟩
    ·rw [if_neg c5] at H
     have c5b0 : (a0 == 4) = false:=beq_eq_false_iff_ne.mpr c5
     have c5b1 : (a0 != 4) = true:=bne_iff_ne.mpr c5
     by_cases c6 : a0 = 5
     ·rw [if_pos c6] at H
      have c6b0 : (a0 == 5) = true:=beq_iff_eq.mpr c6
      have c6b1 : (a0 != 5) = false:=bne_eq_false_iff_eq.mpr c6
      clear c6
      simp only [Option.some.injEq,Prod.mk.injEq] at H
      obtain ⟨rfl,rfl⟩:=H
      go_enter Tryz.func37,Tryz.ntmps37
      go_wp2
      go_ret2
      exact ⟨by first | rfl | (simp; done) | (simp [*]; done),by repeat (first | exact Drawn0.refl _ | apply Drawn0.step)⟩
     ·rw [if_neg c6] at H
      have c6b0 : (a0 == 5) = false:=beq_eq_false_iff_ne.mpr c6
      have c6b1 : (a0 != 5) = true:=bne_iff_ne.mpr c6
      by_cases c7 : a0 = 6
      ·rw [if_pos c7] at H
       have c7b0 : (a0 == 6) = true:=beq_iff_eq.mpr c7
       have c7b1 : (a0 != 6) = false:=bne_eq_false_iff_eq.mpr c7
       clear c7
       simp only [Option.some.injEq,Prod.mk.injEq] at H
       obtain ⟨rfl,rfl⟩:=H
       go_enter Tryz.func37,Tryz.ntmps37
       go_wp2
       go_ret2
       exact ⟨by first | rfl | (simp; done) | (simp [*]; done),by repeat (first | exact Drawn0.refl _ | apply Drawn0.step)⟩
      ·rw [if_neg c7] at H
       have c7b0 : (a0 == 6) = false:=beq_eq_false_iff_ne.mpr c7
       have c7b1 : (a0 != 6) = true:=bne_iff_ne.mpr c7
       simp only [Option.some.injEq,Prod.mk.injEq] at H
       obtain ⟨rfl,rfl⟩:=H
       go_enter Tryz.func37,Tryz.ntmps37
       go_wp2
       go_ret2
       exact ⟨by first | rfl | (simp; done) | (simp [*]; done),by repeat (first | exact Drawn0.refl _ | apply Drawn0.step)⟩
end Go.Proofs.YtdbpglhdicmhhaaGreatDoor.GA
end

section
namespace Go.Proofs
open Go.Shelf
def Tryz.laysM171_ren : Go.Shelf.Ren:=⟨fun | 171 => 38 | 243 => 82 | 246 => 106 | 283 => 122 | 284 => 123 | 285 => 124 | 286 => 125 | 129 => 134 | 317 => 133 | 318 => 135 | 319 => 136 | 320 => 137 | 337 => 145 | 338 => 146 | n => n,fun | 3 => 3 | 9 => 9 | 2 => 2 | 4 => 4 | 171 => 157 | 0 => 0 | 53 => 158 | 37 => 87 | 5 => 5 | 173 => 161 | 212 => 168 | 51 => 39 | 20 => 20 | 213 => 169 | 46 => 125 | 232 => 188 | 233 => 189 | n => n,fun | 17 => 2 | 18 => 7 | 19 => 8 | n => n⟩
theorem Tryz.laysM171 : Go.Proofs.LaysM.n171 Tryz.prog Tryz.laysM171_ren:={
 mixed:=by kernel_rfl
 f129:=Tryz.func134.trans (congrArg some (by kernel_rfl))
 f171:=Tryz.func38.trans (congrArg some (by kernel_rfl))
 f243:=Tryz.func82.trans (congrArg some (by kernel_rfl))
 f246:=Tryz.func106.trans (congrArg some (by kernel_rfl))
 f283:=Tryz.func122.trans (congrArg some (by kernel_rfl))
 f284:=Tryz.func123.trans (congrArg some (by kernel_rfl))
 f285:=Tryz.func124.trans (congrArg some (by kernel_rfl))
 f286:=Tryz.func125.trans (congrArg some (by kernel_rfl))
 f317:=Tryz.func133.trans (congrArg some (by kernel_rfl))
 f318:=Tryz.func135.trans (congrArg some (by kernel_rfl))
 f319:=Tryz.func136.trans (congrArg some (by kernel_rfl))
 f320:=Tryz.func137.trans (congrArg some (by kernel_rfl))
 f337:=Tryz.func145.trans (congrArg some (by kernel_rfl))
 f338:=Tryz.func146.trans (congrArg some (by kernel_rfl))
 t0:=Tryz.underlying0
 a0:=Tryz.isAgg0
 z0:=Tryz.sizeOf0
 v0:=Tryz.zeroValue0
 t2:=Tryz.underlying2
 a2:=Tryz.isAgg2
 z2:=Tryz.sizeOf2
 v2:=Tryz.zeroValue2
 t3:=Tryz.underlying3
 a3:=Tryz.isAgg3
 z3:=Tryz.sizeOf3
 v3:=Tryz.zeroValue3
 t4:=Tryz.underlying4
 a4:=Tryz.isAgg4
 z4:=Tryz.sizeOf4
 v4:=Tryz.zeroValue4
 t5:=Tryz.underlying5
 a5:=Tryz.isAgg5
 z5:=Tryz.sizeOf5
 v5:=Tryz.zeroValue5
 t9:=Tryz.underlying9
 a9:=Tryz.isAgg9
 z9:=Tryz.sizeOf9
 v9:=Tryz.zeroValue9
 t20:=Tryz.underlying20
 a20:=Tryz.isAgg20
 z20:=Tryz.sizeOf20
 v20:=Tryz.zeroValue20
 t37:=Tryz.underlying87
 a37:=Tryz.isAgg87
 z37:=Tryz.sizeOf87
 v37:=Tryz.zeroValue87
 t46:=Tryz.underlying125
 a46:=Tryz.isAgg125
 z46:=Tryz.sizeOf125
 v46:=Tryz.zeroValue125
 t51:=Tryz.underlying39
 a51:=Tryz.isAgg39
 z51:=Tryz.sizeOf39
 v51:=Tryz.zeroValue39
 t53:=Tryz.underlying158
 a53:=Tryz.isAgg158
 z53:=Tryz.sizeOf158
 v53:=Tryz.zeroValue158
 t171:=Tryz.underlying157
 a171:=Tryz.isAgg157
 z171:=Tryz.sizeOf157
 v171:=Tryz.zeroValue157
 t173:=Tryz.underlying161
 a173:=Tryz.isAgg161
 z173:=Tryz.sizeOf161
 v173:=Tryz.zeroValue161
 t212:=Tryz.underlying168
 a212:=Tryz.isAgg168
 z212:=Tryz.sizeOf168
 v212:=Tryz.zeroValue168
 t213:=Tryz.underlying169
 a213:=Tryz.isAgg169
 z213:=Tryz.sizeOf169
 t232:=Tryz.underlying188
 a232:=Tryz.isAgg188
 z232:=Tryz.sizeOf188
 v232:=Tryz.zeroValue188
 t233:=Tryz.underlying189
 a233:=Tryz.isAgg189
 z233:=Tryz.sizeOf189
 v233:=Tryz.zeroValue189
 g17:=by kernel_rfl
 g18:=by kernel_rfl
 g19:=by kernel_rfl
 i0:=by kernel_rfl
 i2:=by kernel_rfl
 i3:=by kernel_rfl
 i4:=by kernel_rfl
 i5:=by kernel_rfl
 i9:=by kernel_rfl
 i20:=by kernel_rfl
 i37:=by kernel_rfl
 i46:=by kernel_rfl
 i51:=by kernel_rfl
 i53:=by kernel_rfl
 i171:=by kernel_rfl
 i173:=by kernel_rfl
 i212:=by kernel_rfl
 i232:=by kernel_rfl
 i233:=by kernel_rfl
 m17:=by kernel_rfl
 m18:=by kernel_rfl
 m19:=by kernel_rfl }
open Go.RowKit Go.Sort Go.Lib in
theorem Tryz.strconv_Itoa (n : Int) (h0 : -9223372036854775808 ≤ n) (h1 : n ≤ 9223372036854775807) (w : World) (htab : Lib.TabIs Tryz.prog w "internal/strconv.uint64pow10" .u64 Lib.pow10Tab) :
  Calls Tryz.prog 38 #[.int .i64 n] w fun e w' => e = .returned (.string ⟨(Lib.itoa n).toArray⟩) ∧ ∃ k os,w' = grow (w.drewN k) os:=Any.strconv_Itoa Tryz.laysM171 n h0 h1 w htab
end Go.Proofs
end

section
namespace Go.Proofs.YtdbpglhdicmhhaaGreatDoor.Hof
open Go.RowKit Go.Shelf
theorem itoa_calls {w : World} (h : TB w) (n : Int) (h0 : -9223372036854775808 ≤ n) (h1 : n ≤ 9223372036854775807) : Calls Tryz.prog 38 #[.int .i64 n] w fun e W' => e = .returned (.string ⟨(Lib.itoa n).toArray⟩) ∧ Below w.heap.size w W' :=
 (Tryz.strconv_Itoa n h0 h1 w (h w (Below.refl _ _))).mono fun e W' ⟨he,k,os,hw⟩ => ⟨he,by rw [hw]; exact Lib.below_grow _ w (Nat.le_refl _) k os⟩
end Go.Proofs.YtdbpglhdicmhhaaGreatDoor.Hof
end

section
namespace Go.Proofs.YtdbpglhdicmhhaaGreatDoor.GA
open Go.RowKit Go.Proofs.YtdbpglhdicmhhaaGreatDoorW.PrintWords Go.Proofs.YtdbpglhdicmhhaaGreatDoorW.PrintLast Go.Proofs.YtdbpglhdicmhhaaGreatDoorW.PrintMore
def strconv_Itoa_38.f (a0 : Int) : Option (ByteArray):=if -9223372036854775808 ≤ a0 ∧ a0 ≤ 9223372036854775807 then some ⟨(Lib.itoa a0).toArray⟩ else none
set_option maxHeartbeats 8000000 in
set_option maxRecDepth 100000 in
theorem strconv_Itoa_38.calls (a0 : Int) (r : ByteArray) (w : World) (hLLibStd : Laid.LibStd w) (h : strconv_Itoa_38.f a0 = some r) :
  Calls Tryz.prog 38 #[.int .i64 a0] w fun e w' => e = .returned (.string r) ∧ Below w.heap.size w w':=by
 unfold strconv_Itoa_38.f at h
 split at h
 ·rename_i hr
  obtain rfl:=Option.some.inj h
  exact Hof.itoa_calls hLLibStd.2 a0 hr.1 hr.2
 ·cases h
end Go.Proofs.YtdbpglhdicmhhaaGreatDoor.GA
end

section
namespace Go.Proofs.YtdbpglhdicmhhaaGreatDoor.GA
open Go.RowKit Go.Proofs.YtdbpglhdicmhhaaGreatDoorW.PrintWords Go.Proofs.YtdbpglhdicmhhaaGreatDoorW.PrintLast Go.Proofs.YtdbpglhdicmhhaaGreatDoorW.PrintMore
mutual
def listing_prefix.j0 : Nat → Int → Bool → Option (ByteArray)
 | 0,_,_ => none
 | k + 1,x3,x4 => if x4 = true then (some (⟨#[76]⟩ : ByteArray)) else (if x3 = 20 then (listing_prefix.j1 k x3 (x3 == 20)) else (listing_prefix.j1 k x3 (x3 == 22)))
def listing_prefix.j1 : Nat → Int → Bool → Option (ByteArray)
 | 0,_,_ => none
 | k + 1,x3,x8 => if x8 = true then (some (⟨#[102]⟩ : ByteArray)) else (if x3 = 34 then (some (⟨#[116]⟩ : ByteArray)) else (some (⟨#[]⟩ : ByteArray)))
end
def listing_prefix.f (k : Nat) (a0 : Int) : Option (ByteArray):=if a0 = 17 then (listing_prefix.j0 k a0 (a0 == 17)) else (if a0 = 18 then (listing_prefix.j0 k a0 (a0 == 18)) else (listing_prefix.j0 k a0 (a0 == 19)))
theorem listing_prefix.mono_l : ∀ k,(∀ y0 y1,LeO (listing_prefix.j0 k y0 y1) (listing_prefix.j0 (k + 1) y0 y1)) ∧ (∀ y0 y1,LeO (listing_prefix.j1 k y0 y1) (listing_prefix.j1 (k + 1) y0 y1))
 | 0 => ⟨fun _ _ r h => by simp [listing_prefix.j0] at h,fun _ _ r h => by simp [listing_prefix.j1] at h⟩
 | k + 1 => by
  obtain ⟨ih0,ih1⟩:=listing_prefix.mono_l k
  refine ⟨?_,?_⟩
  ·intro y0 y1
   unfold listing_prefix.j0
   repeat' first
   | (with_reducible exact ih0 _ _)
   | (with_reducible exact ih1 _ _)
   | (with_reducible exact LeO.refl _)
   | (with_reducible exact LeO.none _)
   | (with_reducible refine LeO.ite ?_ ?_)
   | (with_reducible refine LeO.bind ?_ (fun _ => ?_))
   | exact ih0 _ _
   | exact ih1 _ _
   | exact LeO.none _
   | refine LeO.ite ?_ ?_
   | refine LeO.bind ?_ (fun _ => ?_)
  ·intro y0 y1
   unfold listing_prefix.j1
   repeat' first
   | (with_reducible exact ih0 _ _)
   | (with_reducible exact ih1 _ _)
   | (with_reducible exact LeO.refl _)
   | (with_reducible exact LeO.none _)
   | (with_reducible refine LeO.ite ?_ ?_)
   | (with_reducible refine LeO.bind ?_ (fun _ => ?_))
   | exact ih0 _ _
   | exact ih1 _ _
   | exact LeO.none _
   | refine LeO.ite ?_ ?_
   | refine LeO.bind ?_ (fun _ => ?_)
theorem listing_prefix.mono : ∀ a0 k,LeO (listing_prefix.f k a0) (listing_prefix.f (k + 1) a0):=by
 intro a0 k
 obtain ⟨ih0,ih1⟩:=listing_prefix.mono_l k
 unfold listing_prefix.f
 repeat' first
   | (with_reducible exact ih0 _ _)
   | (with_reducible exact ih1 _ _)
   | (with_reducible exact LeO.refl _)
   | (with_reducible exact LeO.none _)
   | (with_reducible refine LeO.ite ?_ ?_)
   | (with_reducible refine LeO.bind ?_ (fun _ => ?_))
   | exact ih0 _ _
   | exact ih1 _ _
   | exact LeO.none _
   | refine LeO.ite ?_ ?_
   | refine LeO.bind ?_ (fun _ => ?_)
set_option maxHeartbeats 8000000 in
set_option maxRecDepth 100000 in
theorem listing_prefix.calls (k : Nat) (a0 : Int) (r : ByteArray) (w : World) (h : listing_prefix.f k a0 = some r) :
  Calls Tryz.prog 39 #[.int .i64 a0] w fun e w' => e = .returned (.string r) ∧ Drawn0 w w':=by
 have H : (if a0 = 17 then (listing_prefix.j0 k a0 (a0 == 17)) else (if a0 = 18 then (listing_prefix.j0 k a0 (a0 == 18)) else (listing_prefix.j0 k a0 (a0 == 19)))) = some r:=h
 clear h
 have HC2:=Aside0.mk H
 clear H
 go_enter Tryz.func39,Tryz.ntmps39
 go_upto_if 4 with (fail)
 go_cut [4] (fun v4 wc => ∃ (kq : Nat) (x4_1 : Bool),v4 = .bool x4_1 ∧ Aside0 (listing_prefix.j0 kq a0 x4_1 = some r) ∧ Aside0 (kq ≤ k) ∧ Drawn0 w wc)
 case first =>
  have H:=HC2.out
  clear HC2
  by_cases c3 : a0 = 17
  ·rw [if_pos c3] at H
   have c3b0 : (a0 == 17) = true:=beq_iff_eq.mpr c3
   have c3b1 : (a0 != 17) = false:=bne_eq_false_iff_eq.mpr c3
   clear c3
   (first | rw [c3b0] | (simp only [i64_w,i32_w]; rw [c3b0]) | skip)
   have H':=Aside0.mk H
   clear H
   go_wp2
   go_meet
   case rel => exact ⟨_,((a0 == 17)),(by first | rfl | (simp; done) | (simp [*]; done)),H',⟨by first | omega | exact Nat.le_refl _⟩,by repeat (first | exact Drawn0.refl _ | apply Drawn0.step)⟩
  ·rw [if_neg c3] at H
   have c3b0 : (a0 == 17) = false:=beq_eq_false_iff_ne.mpr c3
   have c3b1 : (a0 != 17) = true:=bne_iff_ne.mpr c3
   (first | rw [c3b0] | (simp only [i64_w,i32_w]; rw [c3b0]) | skip)
   by_cases c4 : a0 = 18
   ·rw [if_pos c4] at H
    have c4b0 : (a0 == 18) = true:=beq_iff_eq.mpr c4
    have c4b1 : (a0 != 18) = false:=bne_eq_false_iff_eq.mpr c4
    clear c4
    have H':=Aside0.mk H
    clear H
    go_wp2
    go_meet
    case rel => exact ⟨_,((a0 == 18)),(by first | rfl | (simp; done) | (simp [*]; done)),H',⟨by first | omega | exact Nat.le_refl _⟩,by repeat (first | exact Drawn0.refl _ | apply Drawn0.step)⟩
   ·rw [if_neg c4] at H
    have c4b0 : (a0 == 18) = false:=beq_eq_false_iff_ne.mpr c4
    have c4b1 : (a0 != 18) = true:=bne_iff_ne.mpr c4
    have H':=Aside0.mk H
    clear H
    go_wp2
    go_meet
    case rel => exact ⟨_,((a0 == 19)),(by first | rfl | (simp; done) | (simp [*]; done)),H',⟨by first | omega | exact Nat.le_refl _⟩,by repeat (first | exact Drawn0.refl _ | apply Drawn0.step)⟩
 case rest =>
  clear HC2
  try clear p2
  try clear c3
  try clear c3b0
  try clear c3b1
  try clear c4
  try clear c4b0
  try clear c4b1
  obtain ⟨kq,x4_1,rfl,HA,HJ1,⟨mc1,rfl⟩⟩:=hcut
  cases kq with
  | zero => exact absurd HA.out (by simp [listing_prefix.j0])
  | succ kj1 =>
   have H:=HA.out
   clear HA
   simp only [listing_prefix.j0] at H
   by_cases c5 : x4_1 = true
   ·subst c5
    have H1 : (some (⟨#[76]⟩ : ByteArray)) = some r:=by rw [if_pos rfl] at H; exact H
    clear H
    have H:=H1
    clear H1
    obtain rfl:=Option.some.inj H
    go_wp2
    go_ret
    exact ⟨by first | rfl | (simp; done) | (simp [*]; done),by repeat (first | exact Drawn0.refl _ | apply Drawn0.step)⟩
   ·replace c5:=Bool.eq_false_iff.mpr c5
    subst c5
    have H1 : (if a0 = 20 then (listing_prefix.j1 kj1 a0 (a0 == 20)) else (listing_prefix.j1 kj1 a0 (a0 == 22))) = some r:=by rw [if_neg (show ¬ (false = true) by decide)] at H; exact H
    clear H
    have H:=H1
    clear H1
    have HC6:=Aside0.mk H
    clear H
    go_upto_if 8 with (fail)
    go_cut [8] (fun v8 wc => ∃ (kq : Nat) (x8_5 : Bool),v8 = .bool x8_5 ∧ Aside0 (listing_prefix.j1 kq a0 x8_5 = some r) ∧ Aside0 (kq ≤ kj1) ∧ Drawn0 w wc)
    case first =>
     have H:=HC6.out
     clear HC6
     by_cases c7 : a0 = 20
     ·rw [if_pos c7] at H
      have c7b0 : (a0 == 20) = true:=beq_iff_eq.mpr c7
      have c7b1 : (a0 != 20) = false:=bne_eq_false_iff_eq.mpr c7
      clear c7
      (first | rw [c7b0] | (simp only [i64_w,i32_w]; rw [c7b0]) | skip)
      have H':=Aside0.mk H
      clear H
      go_wp2
      go_meet
      case rel => exact ⟨_,((a0 == 20)),(by first | rfl | (simp; done) | (simp [*]; done)),H',⟨by have:=HJ1.out; first | omega | exact Nat.le_refl _⟩,by repeat (first | exact Drawn0.refl _ | apply Drawn0.step)⟩
     ·rw [if_neg c7] at H
      have c7b0 : (a0 == 20) = false:=beq_eq_false_iff_ne.mpr c7
      have c7b1 : (a0 != 20) = true:=bne_iff_ne.mpr c7
      (first | rw [c7b0] | (simp only [i64_w,i32_w]; rw [c7b0]) | skip)
      have H':=Aside0.mk H
      clear H
      go_wp2
      go_meet
      case rel => exact ⟨_,((a0 == 22)),(by first | rfl | (simp; done) | (simp [*]; done)),H',⟨by have:=HJ1.out; first | omega | exact Nat.le_refl _⟩,by repeat (first | exact Drawn0.refl _ | apply Drawn0.step)⟩
    case rest =>
     clear HC6
     try clear c1
     try clear p2
     try clear c3
     try clear c3b0
     try clear c3b1
     try clear c4
     try clear c4b0
     try clear c4b1
     try clear c5
     try clear c7
     try clear c7b0
     try clear c7b1
     try clear p2
     obtain ⟨kq,x8_5,rfl,HA,HJ5,⟨mc5,rfl⟩⟩:=hcut
     cases kq with
     | zero => exact absurd HA.out (by simp [listing_prefix.j1])
     | succ kj5 =>
      have H:=HA.out
      clear HA
      simp only [listing_prefix.j1] at H
      by_cases c8 : x8_5 = true
      ·subst c8
       have H1 : (some (⟨#[102]⟩ : ByteArray)) = some r:=by rw [if_pos rfl] at H; exact H
       clear H
       have H:=H1
       clear H1
       obtain rfl:=Option.some.inj H
       go_wp2
       go_ret
       exact ⟨by first | rfl | (simp; done) | (simp [*]; done),by repeat (first | exact Drawn0.refl _ | apply Drawn0.step)⟩
      ·replace c8:=Bool.eq_false_iff.mpr c8
       subst c8
       have H1 : (if a0 = 34 then (some (⟨#[116]⟩ : ByteArray)) else (some (⟨#[]⟩ : ByteArray))) = some r:=by rw [if_neg (show ¬ (false = true) by decide)] at H; exact H
       clear H
       have H:=H1
       clear H1
       by_cases c9 : a0 = 34
       ·rw [if_pos c9] at H
        have c9b0 : (a0 == 34) = true:=beq_iff_eq.mpr c9
        have c9b1 : (a0 != 34) = false:=bne_eq_false_iff_eq.mpr c9
        clear c9
        obtain rfl:=Option.some.inj H
        go_wp2
        go_ret
        exact ⟨by first | rfl | (simp; done) | (simp [*]; done),by repeat (first | exact Drawn0.refl _ | apply Drawn0.step)⟩
       ·rw [if_neg c9] at H
        have c9b0 : (a0 == 34) = false:=beq_eq_false_iff_ne.mpr c9
        have c9b1 : (a0 != 34) = true:=bne_iff_ne.mpr c9
        obtain rfl:=Option.some.inj H
        go_wp2
        go_ret
        exact ⟨by first | rfl | (simp; done) | (simp [*]; done),by repeat (first | exact Drawn0.refl _ | apply Drawn0.step)⟩
end Go.Proofs.YtdbpglhdicmhhaaGreatDoor.GA
end
