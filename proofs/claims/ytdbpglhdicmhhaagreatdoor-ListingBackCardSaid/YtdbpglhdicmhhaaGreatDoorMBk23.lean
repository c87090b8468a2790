import Derived.Test.YtdbpglhdicmhhaaGreatDoorMBk19
import Derived.Test.YtdbpglhdicmhhaaGreatDoorMBk20
import Derived.Test.YtdbpglhdicmhhaaGreatDoorMBk21
import Derived.Test.YtdbpglhdicmhhaaGreatDoorMBk22
set_option linter.unusedVariables false
set_option linter.unusedSimpArgs false
section
namespace Go.Proofs.YtdbpglhdicmhhaaGreatDoor.Q
open Go.RowKit Go.Lib Go.Proofs.YtdbpglhdicmhhaaGreatDoor.GA Go.Proofs.YtdbpglhdicmhhaaGreatDoorW.PrintWords Go.Proofs.YtdbpglhdicmhhaaGreatDoorW.PrintLast Go.Proofs.YtdbpglhdicmhhaaGreatDoorW.PrintMore
def regOk (n : Int) : Bool:=decide (0 ≤ n) && decide (n < 16)
def caseOk (c : S46) : Bool:=regOk c.f1 && regOk c.f2 && (c.f0 || regOk c.f3)
def caseR (c : S46) : List Int:=if c.f0 then [c.f1,c.f2] else [c.f1,c.f2,c.f3]
def caseL (c : S46) : List UInt8:=(if c.f0 then [115,101,110,100] else [114,101,99,118]) ++ (caseR c).flatMap regL
def casesL (l : List S46) : List UInt8:=l.flatMap fun c => caseL c ++ [10]
def tabL (i : Nat) (t : S44) : List UInt8:=[116,97,98,108,101,32,116] ++ itoa i ++ (if t.f1 then [32,100,101,102,97,117,108,116] else []) ++ [10] ++ casesL t.f0
def tabsL : Nat → List S44 → List UInt8
 | _,[] => []
 | i,t :: r => tabL i t ++ tabsL (i + 1) r
def tabsOk (l : List S44) : Bool:=l.all fun t => t.f0.all caseOk
def decV (w : Int) : Int × Int × Int × Int × Int × Int:=(word_Decode.f w).getD (0,0,0,0,0,0)
def dOp (w : Int) : Int:=(decV w).1
def dImm (w : Int) : Int:=(decV w).2.2.2.2.1
def dErr (w : Int) : Int:=(decV w).2.2.2.2.2
def lineW (w : Int) : List UInt8:=lineL (dOp w - 1).toNat (decV w).2.1 (decV w).2.2.1 (decV w).2.2.2.1 (dImm w)
def fitsV (nf nt : Nat) (b e w : Int) : Bool :=
 if prefL (dOp w) = [76] then decide (b ≤ dImm w) && decide (dImm w < e) else if prefL (dOp w) = [102] then decide (dImm w < nf) else if prefL (dOp w) = [116] then decide (dImm w < nt) else true
def scanA (nf nt : Nat) (b e : Int) : List Int → Int → (Int → Bool) → Option (Int × (Int → Bool))
 | [],bad,tg => some (bad,tg)
 | w :: r,bad,tg => if dErr w ≠ 0 then scanA nf nt b e r (if bad = 0 then dErr w else bad) tg
  else if fitsV nf nt b e w then scanA nf nt b e r bad (if prefL (dOp w) = [76] then fun y => decide (y = dImm w) || tg y else tg) else none
def wordsOf (l0 : List Int) (f : S41) : List Int:=(l0.drop f.f0.toNat).take (f.f1 - f.f0).toNat
def scanF (l0 : List Int) (nf nt : Nat) : List S41 → Int → (Int → Bool) → Option (Int × (Int → Bool))
 | [],bad,tg => some (bad,tg)
 | f :: r,bad,tg => (scanA nf nt f.f0 f.f1 (wordsOf l0 f) bad tg).bind fun x => scanF l0 nf nt r x.1 x.2
def codeL (tg : Int → Bool) : Int → List Int → List UInt8
 | _,[] => []
 | at_,w :: r => (if tg at_ then [76] ++ itoa at_ ++ [58,10] else []) ++ (lineW w ++ [10]) ++ codeL tg (at_ + 1) r
def funcL (tg : Int → Bool) (l0 : List Int) (i : Nat) (f : S41) : List UInt8:=[102,117,110,99,32,102] ++ itoa i ++ [10] ++ codeL tg f.f0 (wordsOf l0 f)
def funcsL (tg : Int → Bool) (l0 : List Int) : Nat → List S41 → List UInt8
 | _,[] => []
 | i,f :: r => funcL tg l0 i f ++ funcsL tg l0 (i + 1) r
def partsFrom (n : Int) : Int → List S41 → Bool
 | at_,[] => decide (at_ = n)
 | at_,f :: r => decide (f.f0 = at_) && decide (at_ < f.f1) && decide (f.f1 ≤ n) && partsFrom n f.f1 r
def partsV (l0 : List Int) (l1 : List S41) : Bool:=partsFrom l0.length 0 l1 && !l1.isEmpty
def prnV (l0 : List Int) (l1 : List S41) (l2 : List S44) : List UInt8 × Int :=
 if (partsV l0 l1 && tabsOk l2) = false then ([],1) else
 match scanF l0 l1.length l2.length l1 0 (fun _ => false) with
 | none => ([],1)
 | some (bad,tg) => if bad ≠ 0 then ([],bad) else if 262144 < (tabsL 0 l2 ++ funcsL tg l0 0 l1).length then ([],75) else (tabsL 0 l2 ++ funcsL tg l0 0 l1,0)
theorem rdT41 {l : List S41} {i : Nat} {x : S41} (h : l[i]? = some x) : rd_T41 l (i : Int) = x:=by unfold rd_T41; rw [Int.toNat_natCast,List.getD_eq_getElem?_getD,h]; rfl
theorem parts_at : ∀ (r : List S41) (l0 : List Int) (l1 : List S41) (l2 : List S44) (i : Nat) (at_ : Int),l1.drop i = r → l1.length < 4611686018427387904 → listing_parts.l0 (r.length + 1) at_ l1 (l1.length : Int) (i : Int) l0 l1 l2 = some (partsFrom l0.length at_ r && decide (0 < l1.length))
 | [],l0,l1,l2,i,at_,hd,hb => by
  have hi : l1.length ≤ i:=by
   have:=congrArg List.length hd; rw [List.length_drop,List.length_nil] at this; omega
  rw [listing_parts.l0,if_neg (by omega),partsFrom]
  by_cases h : at_ = (l0.length : Int)
  ·rw [if_pos h,decide_eq_true h,Bool.true_and]
   congr 1
   exact decide_eq_decide.2 (by omega)
  ·rw [if_neg h,decide_eq_false h,Bool.false_and]
 | f :: r,l0,l1,l2,i,at_,hd,hb => by
  have hi : i < l1.length:=by
   have:=congrArg List.length hd; rw [List.length_drop,List.length_cons] at this; omega
  have hf : l1[i]? = some f:=by
   have:=congrArg (fun l => l[0]?) hd
   simpa using this
  have hd2 : l1.drop (i + 1) = r:=by
   have:=congrArg List.tail hd
   simpa using this
  rw [List.length_cons,listing_parts.l0,if_pos (by omega),if_pos (by omega),if_pos (by omega),rdT41 hf,partsFrom]
  have hw : wrap64 ((i : Int) + 1) = ((i + 1 : Nat) : Int):=by unfold wrap64; omega
  by_cases h1 : f.f0 = at_
  ·rw [if_pos h1,decide_eq_true h1]
   by_cases h2 : at_ < f.f1
   ·rw [if_neg (by omega),decide_eq_true h2]
    by_cases h3 : f.f1 ≤ (l0.length : Int)
    ·rw [if_neg (by omega),decide_eq_true h3,hw,parts_at r l0 l1 l2 (i + 1) f.f1 hd2 hb]
     simp
    ·rw [if_pos (by omega),decide_eq_false h3]
     simp
   ·rw [if_pos (by omega),decide_eq_false h2]
    simp
  ·rw [if_neg h1,decide_eq_false h1]
   simp
theorem parts_all (l0 : List Int) (l1 : List S41) (l2 : List S44) (hb : l1.length < 4611686018427387904) : listing_parts.f (l1.length + 1) l0 l1 l2 = some (partsV l0 l1):=by
 have h:=parts_at l1 l0 l1 l2 0 0 rfl hb
 unfold listing_parts.f partsV
 refine h.trans ?_
 cases l1 <;> simp
theorem regOk_few {n : Int} (h : regOk n = true) : Few5 n:=by
 unfold regOk at h
 simp at h
 exact ⟨by omega,by omega⟩
theorem caseLine_all (c : S46) : listing_caseLine.f 8 c.f0 c.f1 c.f2 c.f3 = some (if caseOk c then (bs (caseL c),true) else (⟨#[]⟩,false)):=by
 have step : ∀ (xs : List Int) (k : Nat) (s : List UInt8) (i : Nat),i ≤ xs.length → xs.length ≤ i + k → xs.length ≤ 3 → s.length ≤ 10 + 10 * i → listing_caseLine.l0 (k + 1) (bs s) xs (xs.length : Int) (i : Int) = some (if (xs.drop i).all regOk then (bs (s ++ (xs.drop i).flatMap regL),true) else (⟨#[]⟩,false)):=by
  intro xs k
  induction k with
  | zero =>
   intro s i h1 h2 h3 h4
   obtain rfl : i = xs.length:=by omega
   rw [listing_caseLine.l0,if_neg (by omega),List.drop_length]
   simp
  | succ k ih =>
   intro s i h1 h2 h3 h4
   by_cases hi : i < xs.length
   ·obtain ⟨y,hy⟩ : ∃ y,xs[i]? = some y:=⟨_,List.getElem?_eq_getElem hi⟩
    have e : rd xs (i : Int) = y:=by unfold rd; rw [Int.toNat_natCast,List.getD_eq_getElem?_getD,hy]; rfl
    have ed : xs.drop i = y :: xs.drop (i + 1):=by
     obtain ⟨a1,a2⟩:=List.getElem?_eq_some_iff.1 hy
     rw [List.drop_eq_getElem_cons a1,a2]
    rw [listing_caseLine.l0,if_pos (by omega),if_pos (by omega),if_pos (by omega),e,ed]
    by_cases hr : regOk y = true
    ·have hr2 : 0 ≤ y ∧ y < 16:=by unfold regOk at hr; simpa using hr
     have hl:=itoa_len (regOk_few hr)
     rw [if_neg (by omega),if_neg (by omega),itoa_at (regOk_few hr)]
     simp only [Option.bind_some]
     rw [show (⟨#[32,114]⟩ : ByteArray) = bs [32,114] from rfl,app_bs,size_bs,size_bs,size_bs,if_pos (by omega),if_pos (by simp only [List.length_append,List.length_cons,List.length_nil]; omega),app_bs,
      show wrap64 ((i : Int) + 1) = ((i + 1 : Nat) : Int) by unfold wrap64; omega,
      ih (s ++ ([32,114] ++ itoa y)) (i + 1) (by omega) (by omega) h3 (by simp only [List.length_append,List.length_cons,List.length_nil]; omega)]
     simp [hr,regL]
    ·have hr2 : y < 0 ∨ y ≥ 16:=by unfold regOk at hr; simp at hr; omega
     rw [Bool.not_eq_true] at hr
     by_cases h0 : y < 0
     ·rw [if_pos h0]; simp [hr]
     ·rw [if_neg h0,if_pos (by omega)]; simp [hr]
   ·obtain rfl : i = xs.length:=by omega
    rw [listing_caseLine.l0,if_neg (by omega),List.drop_length]
    simp
 unfold listing_caseLine.f caseOk caseL caseR
 simp only [Option.bind_some]
 obtain ⟨b,x,y,z⟩:=c
 cases b with
 | true =>
  simp only [if_true]
  rw [listing_caseLine.j0,show (⟨#[115,101,110,100]⟩ : ByteArray) = bs [115,101,110,100] from rfl]
  have:=step [x,y] 6 [115,101,110,100] 0 (by simp) (by simp) (by simp) (by simp)
  rw [List.drop_zero] at this
  simp only [Int.natCast_zero] at this
  rw [this]
  simp
 | false =>
  simp only [Bool.false_eq_true,if_false]
  rw [if_pos (by simp),listing_caseLine.j0,show (⟨#[114,101,99,118]⟩ : ByteArray) = bs [114,101,99,118] from rfl]
  have:=step [x,y,z] 6 [114,101,99,118] 0 (by simp) (by simp) (by simp) (by simp)
  rw [List.drop_zero] at this
  simp only [Int.natCast_zero] at this
  refine this.trans ?_
  simp [Bool.and_assoc]
theorem fits_all (l0 : List Int) (l1 : List S41) (l2 : List S44) (b e w a1 a2 a3 : Int) : listing_fits.f 2 l0 l1 l2 b e (dOp w) a1 a2 a3 (dImm w) = some (fitsV l1.length l2.length b e w):=by
 unfold listing_fits.f fitsV
 rw [prefix_at 0]
 simp only [Option.bind_some,data_bs,show (bs (prefL (dOp w))).toList = prefL (dOp w) from ByteArray.toList_eq ..]
 repeat' split
 all_goals first | rfl | (simp; omega) | (simp_all; done)
theorem dec_all {w : Int} (h0 : 0 ≤ w) (h1 : w < 4294967296) : word_Decode.f w = some (decV w):=by
 unfold decV
 rcases decode_kinds w h0 h1 with ⟨k,a,b,c,m,_,h,_⟩ | ⟨o,a,b,c,m,e,h,_⟩ <;> rw [h] <;> rfl
end Go.Proofs.YtdbpglhdicmhhaaGreatDoor.Q
end
