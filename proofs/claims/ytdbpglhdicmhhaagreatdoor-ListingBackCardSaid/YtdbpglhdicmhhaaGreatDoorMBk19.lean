import Derived.Test.YtdbpglhdicmhhaaGreatDoorMBk4
import Derived.Test.YtdbpglhdicmhhaaGreatDoorMBk16
import Derived.Test.YtdbpglhdicmhhaaGreatDoorMBk18
set_option linter.unusedVariables false
set_option linter.unusedSimpArgs false
section
namespace Go.Proofs.YtdbpglhdicmhhaaGreatDoor.GA
open Go.RowKit Go.Proofs.YtdbpglhdicmhhaaGreatDoorW.PrintWords Go.Proofs.YtdbpglhdicmhhaaGreatDoorW.PrintLast Go.Proofs.YtdbpglhdicmhhaaGreatDoorW.PrintMore
def rotaref07_decimal.f : Nat → Int → Option (ByteArray)
 | 0,_ => none
 | k + 1,a0 => if a0 < 0 then ((rotaref07_decimal.f k (wrap64 (-a0))).bind fun t500 => (if 1 + t500.size ≤ 9223372036854775807 then (some ((⟨#[45]⟩ : ByteArray) ++ t500)) else (none))) else (if a0 < 10 then (some (strOfNums (([(wrap64 (48 + a0)) % 256] : List Int)))) else ((rotaref07_decimal.f k (wrap64 (Int.tdiv a0 10))).bind fun t504 => ((some (([(wrap64 (48 + (Int.tmod a0 10))) % 256] : List Int) : List Int)).bind fun y505 => (if t504.size + (strOfNums y505).size ≤ 9223372036854775807 then (some (t504 ++ (strOfNums y505))) else (none)))))
end Go.Proofs.YtdbpglhdicmhhaaGreatDoor.GA
end

section
namespace Go.Proofs.YtdbpglhdicmhhaaGreatDoor.GA
open Go.RowKit Go.Proofs.YtdbpglhdicmhhaaGreatDoorW.PrintWords Go.Proofs.YtdbpglhdicmhhaaGreatDoorW.PrintLast Go.Proofs.YtdbpglhdicmhhaaGreatDoorW.PrintMore
end Go.Proofs.YtdbpglhdicmhhaaGreatDoor.GA
end

section
namespace Go.Proofs.YtdbpglhdicmhhaaGreatDoor.Q
open Go.RowKit Go.Lib Go.Proofs.YtdbpglhdicmhhaaGreatDoor.GA Go.Proofs.YtdbpglhdicmhhaaGreatDoor.Hfits Go.Proofs.YtdbpglhdicmhhaaGreatDoorW.PrintWords Go.Proofs.YtdbpglhdicmhhaaGreatDoorW.PrintLast Go.Proofs.YtdbpglhdicmhhaaGreatDoorW.PrintMore
theorem up {α : Type} {f : Nat → Option α} (h : ∀ k,LeO (f k) (f (k + 1))) {k : Nat} {r : α} (hk : f k = some r) : ∀ j,k ≤ j → f j = some r:=by
 intro j hj
 obtain ⟨d,rfl⟩ : ∃ d,j = k + d:=⟨j - k,by omega⟩
 clear hj
 induction d with
 | zero => exact hk
 | succ d ih => exact h (k + d) r ih
def bs (l : List UInt8) : ByteArray:=⟨l.toArray⟩
theorem data_bs (l : List UInt8) : (bs l).data.toList = l:=rfl
theorem size_bs (l : List UInt8) : (bs l).size = l.length:=List.size_toArray
theorem bs_of (a : ByteArray) : a = bs a.data.toList:=by
 show a = ⟨a.data.toList.toArray⟩
 rw [Array.toArray_toList]
theorem app_bs (l m : List UInt8) : bs l ++ bs m = bs (l ++ m):=by
 rw [bs_of (bs l ++ bs m)]
 congr 1
theorem dec_bs (u : Nat) (h : u < 10) : strOfNums [(wrap64 (48 + (u : Int))) % 256] = bs (decDigits u):=by
 rw [decDigits_one h]
 have : wrap64 (48 + (u : Int)) % 256 = ((48 + u : Nat) : Int):=by unfold wrap64; omega
 rw [this]
 rfl
theorem dec_nat : ∀ (j u : Nat),u < 10 ^ (j + 1) → j ≤ 16 → rotaref07_decimal.f (j + 1) (u : Int) = some (bs (decDigits u)) ∧ (decDigits u).length ≤ j + 1
 | 0,u,h,hj => by
  have h10 : u < 10:=by simpa using h
  rw [rotaref07_decimal.f,if_neg (by omega),if_pos (by omega),dec_bs u h10]
  refine ⟨rfl,?_⟩
  rw [decDigits_one h10]; exact Nat.le_refl 1
 | j + 1,u,h,hj => by
  by_cases h10 : u < 10
  ·rw [rotaref07_decimal.f,if_neg (by omega),if_pos (by omega),dec_bs u h10]
   refine ⟨rfl,?_⟩
   rw [decDigits_one h10]; show 1 ≤ _; omega
  ·have hd : u / 10 < 10 ^ (j + 1):=by
    rw [Nat.div_lt_iff_lt_mul (by omega)]
    rw [Nat.pow_succ] at h; exact h
   obtain ⟨ih,ihl⟩:=dec_nat j (u / 10) hd (by omega)
   by_cases hbig : u < 9223372036854775808
   ·have e1 : wrap64 (Int.tdiv (u : Int) 10) = ((u / 10 : Nat) : Int):=by
     rw [Int.tdiv_eq_ediv_of_nonneg (by omega)]
     unfold wrap64; omega
    have e2 : wrap64 (48 + Int.tmod (u : Int) 10) % 256 = wrap64 (48 + ((u % 10 : Nat) : Int)) % 256:=by
     rw [Int.tmod_eq_emod_of_nonneg (by omega)]
     unfold wrap64; omega
    rw [rotaref07_decimal.f,if_neg (by omega),if_neg (by omega),e1,ih,e2]
    have e3:=dec_bs (u % 10) (by omega)
    simp only [Option.bind_some]
    rw [e3,size_bs,size_bs,decDigits_one (show u % 10 < 10 by omega),if_pos (by simp only [List.length_cons,List.length_nil]; omega),app_bs,Num.dec_step h10]
    refine ⟨rfl,?_⟩
    rw [List.length_append]; simp only [List.length_cons,List.length_nil]; omega
   ·exfalso
    have : (10 : Nat) ^ (j + 1 + 1) ≤ 10 ^ 17:=Nat.pow_le_pow_right (by omega) (by omega)
    omega
theorem dec_int (n : Int) (h0 : -100000 < n) (h1 : n < 100000) : rotaref07_decimal.f 8 n = some (bs (itoa n)) ∧ (itoa n).length ≤ 8:=by
 by_cases hn : n < 0
 ·obtain ⟨u,rfl⟩ : ∃ u : Nat,n = -(u : Int):=⟨(-n).toNat,by omega⟩
  obtain ⟨h2,h3⟩:=dec_nat 6 u (by omega) (by omega)
  have e : itoa (-(u : Int)) = 45 :: decDigits u:=by unfold itoa; rw [if_pos hn,Int.natAbs_neg,Int.natAbs_natCast]
  have e1 : wrap64 (- -(u : Int)) = (u : Int):=by unfold wrap64; omega
  rw [rotaref07_decimal.f,if_pos hn,e1,h2,e]
  refine ⟨?_,by simp only [List.length_cons]; omega⟩
  simp only [Option.bind_some]
  rw [size_bs,if_pos (by omega),show (⟨#[45]⟩ : ByteArray) = bs [45] from rfl,app_bs]
  rfl
 ·obtain ⟨u,rfl⟩ : ∃ u : Nat,n = (u : Int):=⟨n.toNat,by omega⟩
  obtain ⟨h2,h3⟩:=dec_nat 7 u (by omega) (by omega)
  have e : itoa (u : Int) = decDigits u:=by unfold itoa; rw [if_neg hn,Int.toNat_natCast]
  rw [e]
  exact ⟨h2,h3⟩
def prefL (op : Int) : List UInt8:=if op = 17 ∨ op = 18 ∨ op = 19 then [76] else if op = 20 ∨ op = 22 then [102] else if op = 34 then [116] else []
theorem pref_len (op : Int) : (prefL op).length ≤ 1:=by
 unfold prefL
 repeat' split
 all_goals simp
theorem prefix_at (k : Nat) (op : Int) : listing_prefix.f (k + 2) op = some (bs (prefL op)):=by
 unfold listing_prefix.f listing_prefix.j0 listing_prefix.j1 prefL
 by_cases h1 : op = 17
 ·subst h1; rfl
 by_cases h2 : op = 18
 ·subst h2; rfl
 by_cases h3 : op = 19
 ·subst h3; rfl
 by_cases h4 : op = 20
 ·subst h4; rfl
 by_cases h5 : op = 22
 ·subst h5; rfl
 by_cases h6 : op = 34
 ·subst h6; rfl
 simp [h1,h2,h3,h4,h5,h6]
 rfl
def Few5 (n : Int) : Prop:=-100000 < n ∧ n < 100000
theorem itoa_at {n : Int} (h : Few5 n) : strconv_Itoa_38.f n = some (bs (itoa n)):=by
 unfold strconv_Itoa_38.f
 rw [if_pos ⟨by have:=h.1; omega,by have:=h.2; omega⟩]; rfl
theorem itoa_len {n : Int} (h : Few5 n) : (itoa n).length ≤ 8:=(dec_int n h.1 h.2).2
def regL (n : Int) : List UInt8:=[32,114] ++ itoa n
def immL (imm : Bool) (op m : Int) : List UInt8:=if imm then [32] ++ prefL op ++ itoa m else []
theorem l0_end (k : Nat) (x : List UInt8) (imm : Bool) (xs : List Int) (o a b c m : Int) (hx : x.length ≤ 1000) (hm : Few5 m) :
  listing_Line.l0 (k + 3) (bs x) imm xs (xs.length : Int) (xs.length : Int) o a b c m = some (bs (x ++ immL imm o m),0):=by
 have hp:=pref_len o
 have hi:=itoa_len hm
 rw [listing_Line.l0,if_neg (by omega)]
 cases imm with
 | false => rw [if_neg (by simp)]; unfold immL; simp
 | true =>
  rw [if_pos rfl,prefix_at k o,itoa_at hm]
  simp only [Option.bind_some]
  rw [show (⟨#[32]⟩ : ByteArray) = bs [32] from rfl,app_bs,app_bs,size_bs,size_bs,size_bs,size_bs,size_bs]
  rw [if_pos (by omega),if_pos (by simp only [List.length_append,List.length_cons,List.length_nil]; omega),if_pos (by simp only [List.length_append,List.length_cons,List.length_nil]; omega),app_bs]
  rfl
theorem l0_all (imm : Bool) (xs : List Int) (o a b c m : Int) (hxs : ∀ x ∈ xs,Few5 x) (hm : Few5 m) (hn : xs.length ≤ 3) : ∀ (d i : Nat) (x : List UInt8),i + d = xs.length → x.length ≤ 100 + i * 10 →
  listing_Line.l0 (d + 3) (bs x) imm xs (xs.length : Int) (i : Int) o a b c m = some (bs (x ++ (xs.drop i).flatMap regL ++ immL imm o m),0)
 | 0,i,x,hd,hx => by
  obtain rfl : i = xs.length:=by omega
  rw [List.drop_length,List.flatMap_nil,List.append_nil]
  exact l0_end 0 x imm xs o a b c m (by omega) hm
 | d + 1,i,x,hd,hx => by
  have hi : i < xs.length:=by omega
  obtain ⟨y,hy⟩ : ∃ y,xs[i]? = some y:=⟨_,List.getElem?_eq_getElem hi⟩
  have hfy:=hxs y (List.mem_of_getElem? hy)
  have hly:=itoa_len hfy
  have e : rd xs (i : Int) = y:=by unfold rd; rw [Int.toNat_natCast,List.getD_eq_getElem?_getD,hy]; rfl
  rw [show d + 1 + 3 = (d + 3) + 1 from rfl,listing_Line.l0,if_pos (by omega),if_pos (by omega),if_pos (by omega),e,itoa_at hfy]
  simp only [Option.bind_some]
  rw [show (⟨#[32,114]⟩ : ByteArray) = bs [32,114] from rfl,app_bs,size_bs,size_bs,size_bs,if_pos (by omega),if_pos (by simp only [List.length_append,List.length_cons,List.length_nil]; omega),app_bs,
   show wrap64 ((i : Int) + 1) = ((i + 1 : Nat) : Int) by unfold wrap64; omega]
  rw [l0_all imm xs o a b c m hxs hm hn d (i + 1) _ (by omega) (by simp only [List.length_append,List.length_cons,List.length_nil]; omega)]
  rw [show xs.drop i = y :: xs.drop (i + 1) from by
   obtain ⟨h1,h2⟩:=List.getElem?_eq_some_iff.1 hy
   rw [List.drop_eq_getElem_cons h1,h2],List.flatMap_cons]
  simp only [regL,List.append_assoc]
def lineL (k : Nat) (a b c m : Int) : List UInt8:=(Hfind.rowAt k).1.data.toList ++ ([a,b,c].take (if (Hfind.rowAt k).2.1 = 1 ∨ (Hfind.rowAt k).2.1 = 5 ∨ (Hfind.rowAt k).2.1 = 6 then 1 else if (Hfind.rowAt k).2.1 = 2 then 2 else if (Hfind.rowAt k).2.1 = 3 then 3 else 0)).flatMap regL ++ immL (decide ((Hfind.rowAt k).2.1 = 4 ∨ (Hfind.rowAt k).2.1 = 5 ∨ (Hfind.rowAt k).2.1 = 6)) ((k : Int) + 1) m
theorem names_short : ((List.range 58).all fun i => decide ((Hfind.rowAt i).1.size ≤ 100)) = true:=by kernel_rfl
theorem name_short {i : Nat} (hi : i < 58) : (Hfind.rowAt i).1.data.toList.length ≤ 100:=by
 have:=List.all_eq_true.1 names_short i (List.mem_range.2 hi)
 rw [Array.length_toList]
 exact of_decide_eq_true this
theorem line_prog {l0 : List Int} {l1 : List S41} {l2 : List S44} {i : Nat} {w : Int} (hw : l0[i]? = some w) {k : Nat} (hk : k < 58) {a b c m : Int} (hd : word_Decode.f w = some ((k : Int) + 1,a,b,c,m,0)) (ha : Few5 a) (hb : Few5 b) (hc : Few5 c) (hm : Few5 m) :
  listing_Line.f 8 l0 l1 l2 (i : Int) = some (bs (lineL k a b c m),0):=by
 have hil : i < l0.length:=(List.getElem?_eq_some_iff.1 hw).1
 have e : rd l0 (i : Int) = w:=by unfold rd; rw [Int.toNat_natCast,List.getD_eq_getElem?_getD,hw]; rfl
 have hnm : word_Name.f ((k : Int) + 1) = some ((Hfind.rowAt k).1,0):=by unfold word_Name.f; rw [find_at k hk]; rfl
 have hsh : word_Shape.f ((k : Int) + 1) = some ((Hfind.rowAt k).2.1,0):=by unfold word_Shape.f; rw [find_at k hk]; rfl
 have hln:=name_short hk
 obtain ⟨_,_,s0,s1⟩:=cost_at hk
 unfold listing_Line.f
 rw [if_neg (by omega),show decide ((i : Int) ≥ (l0.length : Int)) = false from decide_eq_false (by omega),listing_Line.j0,if_neg (by simp),if_pos (by omega),if_pos (by omega),e,hd]
 simp only [Option.bind_some,if_true]
 rw [hnm]
 simp only [Option.bind_some]
 rw [hsh]
 simp only [Option.bind_some]
 unfold lineL
 rw [bs_of (Hfind.rowAt k).1]
 simp only [data_bs]
 generalize (Hfind.rowAt k).1.data.toList = nm at hln ⊢
 generalize (Hfind.rowAt k).2.1 = s at s0 s1 ⊢
 have hall : ∀ x ∈ [a,b,c],Few5 x:=by
  intro x hx
  simp only [List.mem_cons,List.not_mem_nil,or_false] at hx
  rcases hx with rfl | rfl | rfl
  ·exact ha
  ·exact hb
  ·exact hc
 have go : ∀ (n : Nat) (imm : Bool),n ≤ 3 → (if 0 ≤ (n : Int) then (if (n : Int) ≤ (([a,b,c] : List Int).length : Int) then (listing_Line.l0 7 (bs nm) imm (([a,b,c] : List Int).take (n : Int).toNat) ((([a,b,c] : List Int).take (n : Int).toNat).length : Int) 0 ((k : Int) + 1) a b c m) else none) else none) = some (bs (nm ++ ([a,b,c].take n).flatMap regL ++ immL imm ((k : Int) + 1) m),0):=by
  intro n imm hn
  rw [if_pos (by omega),if_pos (by simp only [List.length_cons,List.length_nil]; omega),Int.toNat_natCast]
  have hl : (([a,b,c] : List Int).take n).length = n:=by rw [List.length_take]; simp only [List.length_cons,List.length_nil]; omega
  have h1:=l0_all imm (([a,b,c] : List Int).take n) ((k : Int) + 1) a b c m (fun x hx => hall x (List.mem_of_mem_take hx)) hm (by omega) n 0 nm (by omega) (by omega)
  rw [List.drop_zero] at h1
  exact up (fun k' => (listing_Line.mono_l k').2 _ _ _ _ _ _ _ _ _ _) h1 7 (by omega)
 have hs : s = 0 ∨ s = 1 ∨ s = 2 ∨ s = 3 ∨ s = 4 ∨ s = 5 ∨ s = 6:=by omega
 rcases hs with rfl | rfl | rfl | rfl | rfl | rfl | rfl
 ·exact go 0 false (by omega)
 ·exact go 1 false (by omega)
 ·exact go 2 false (by omega)
 ·exact go 3 false (by omega)
 ·exact go 0 true (by omega)
 ·exact go 1 true (by omega)
 ·exact go 1 true (by omega)
end Go.Proofs.YtdbpglhdicmhhaaGreatDoor.Q
end

section
namespace Go.Proofs.YtdbpglhdicmhhaaGreatDoor.Q
open Go.RowKit Go.Lib Go.Proofs.YtdbpglhdicmhhaaGreatDoor.GA Go.Proofs.YtdbpglhdicmhhaaGreatDoor.Hfits Go.Proofs.YtdbpglhdicmhhaaGreatDoorW.PrintWords Go.Proofs.YtdbpglhdicmhhaaGreatDoorW.PrintLast Go.Proofs.YtdbpglhdicmhhaaGreatDoorW.PrintMore
theorem decode_kinds (w : Int) (h0 : 0 ≤ w) (h1 : w < 4294967296) : (∃ (k : Nat) (a b c m : Int),k < 58 ∧ word_Decode.f w = some ((k : Int) + 1,a,b,c,m,0) ∧ Few5 a ∧ Few5 b ∧ Few5 c ∧ Few5 m) ∨ ∃ (o a b c m e : Int),word_Decode.f w = some (o,a,b,c,m,e) ∧ e ≠ 0:=by
 rcases in_or (w / 16777216) with ⟨j,hj,ho⟩ | hn
 ·have h:=word_decode j hj w h0 h1 ho
  by_cases hf : fitsB (dA w) (dB w) (dC w (Hfind.rowAt j).2.1) (dM w (Hfind.rowAt j).2.1) (Hfind.rowAt j).2.1 = true
  ·rw [if_pos hf] at h
   obtain ⟨b1,b2,b3,b4,b5,b6,_,b7,b8⟩:=fits_bd hf
   exact .inl ⟨j,_,_,_,_,hj,h,⟨by omega,by omega⟩,⟨by omega,by omega⟩,⟨by omega,by omega⟩,⟨by omega,by omega⟩⟩
  ·rw [if_neg hf] at h
   exact .inr ⟨_,_,_,_,_,_,h,by decide⟩
 ·exact .inr ⟨_,_,_,_,_,_,decode_else w h0 h1 hn,by decide⟩
end Go.Proofs.YtdbpglhdicmhhaaGreatDoor.Q
end
