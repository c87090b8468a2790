import Derived.Test.YtdbpglhdicmhhaaGreatDoorMBk37
import Derived.Test.YtdbpglhdicmhhaaGreatDoorMBk23
set_option linter.unusedVariables false
set_option linter.unusedSimpArgs false
section
namespace Go.Proofs.YtdbpglhdicmhhaaGreatDoor.Q
open Go.RowKit Go.Lib Num Go.Proofs.YtdbpglhdicmhhaaGreatDoor.GA Go.Proofs.YtdbpglhdicmhhaaGreatDoor.Hfits Go.Proofs.YtdbpglhdicmhhaaGreatDoor.Hof
structure Dec (w : Int) (k : Nat) (a b c m : Int) : Prop where
 hk : k < 58
 dec : decV w = ((k : Int) + 1,a,b,c,m,0)
 fit : fitsB a b c m (Hfind.rowAt k).2.1 = true
 enc : encV [(k : Int) + 1,a,b,c,m] = w
theorem dec_of {w : Int} (h0 : 0 ≤ w) (h1 : w < 4294967296) (he : dErr w = 0) : ∃ (k : Nat) (a b c m : Int),Dec w k a b c m:=by
 rcases in_or (w / 16777216) with ⟨j,hj,ho⟩ | hn
 ·have h:=word_decode j hj w h0 h1 ho
  by_cases hf : fitsB (dA w) (dB w) (dC w (Hfind.rowAt j).2.1) (dM w (Hfind.rowAt j).2.1) (Hfind.rowAt j).2.1 = true
  ·rw [if_pos hf] at h
   refine ⟨j,_,_,_,_,hj,by unfold decV; rw [h]; rfl,hf,?_⟩
   show ((word_Encode.f ((j : Int) + 1) (dA w) (dB w) (dC w (Hfind.rowAt j).2.1) (dM w (Hfind.rowAt j).2.1)).getD (0,0)).1 = w
   rw [encode_yes j hj _ _ _ _ hf]
   show enc _ _ _ _ _ = w
   unfold enc dA dB dC dM
   generalize (Hfind.rowAt j).2.1 = s
   by_cases s6 : s = 6
   ·subst s6
    simp only [if_true]
    have e1 : (if 32768 ≤ w % 65536 then w % 65536 - 65536 else w % 65536) % 65536 = w % 65536:=by split <;> omega
    rw [e1,if_neg (by decide : ¬ (6 : Int) = 3)]
    omega
   ·rw [if_neg s6]
    by_cases s3 : s = 3
    ·subst s3
     simp only [if_true]
     omega
    ·rw [if_neg s3,if_neg s3]
     omega
  ·rw [if_neg hf] at h
   unfold dErr decV at he
   rw [h] at he
   exact absurd he (by decide)
 ·unfold dErr decV at he
  rw [decode_else w h0 h1 hn] at he
  exact absurd he (by decide)
theorem shape_in {k : Nat} (hk : k < 58) : shapeV ((k : Int) + 1) = (Hfind.rowAt k).2.1:=by
 unfold shapeV word_Shape.f
 rw [find_at k hk]; rfl
def nReg (s : Int) : Nat:=if s = 1 ∨ s = 5 ∨ s = 6 then 1 else if s = 2 then 2 else if s = 3 then 3 else 0
def hasImm (s : Int) : Bool:=decide (s = 4 ∨ s = 5 ∨ s = 6)
theorem fields_in (s : Int) : fieldsV s = ((nReg s : Int),hasImm s):=by
 unfold fieldsV listing_fields.f nReg hasImm
 by_cases h1 : s = 1
 ·subst h1; rfl
 by_cases h2 : s = 2
 ·subst h2; rfl
 by_cases h3 : s = 3
 ·subst h3; rfl
 by_cases h4 : s = 4
 ·subst h4; rfl
 by_cases h5 : s = 5
 ·subst h5; rfl
 by_cases h6 : s = 6
 ·subst h6; rfl
 simp [h1,h2,h3,h4,h5,h6]
def refB (op : Int) : Bool:=decide (op = 17 ∨ op = 18 ∨ op = 19 ∨ op = 20 ∨ op = 22 ∨ op = 34)
theorem refers_in (op : Int) : refersV op = refB op:=by
 unfold refersV listing_refers.f refB
 by_cases h1 : op = 17
 ·subst h1; rfl
 by_cases h2 : op = 18
 ·subst h2; rfl
 by_cases h3 : op = 19
 ·subst h3; rfl
 by_cases h4 : op = 20
 ·subst h4; rfl
 by_cases h5 : op = 22
 ·subst h5; rfl
 by_cases h6 : op = 34
 ·subst h6; rfl
 simp [h1,h2,h3,h4,h5,h6]
theorem pref_ref (op : Int) : (prefL op = [] ↔ refB op = false):=by
 unfold prefL refB
 by_cases h1 : op = 17 ∨ op = 18 ∨ op = 19
 ·rw [if_pos h1]; simp; omega
 ·rw [if_neg h1]
  by_cases h2 : op = 20 ∨ op = 22
  ·rw [if_pos h2]; simp; omega
  ·rw [if_neg h2]
   by_cases h3 : op = 34
   ·rw [if_pos h3]; simp; omega
   ·rw [if_neg h3]; simp; omega
theorem ref_shapes : ((List.range 58).all fun k => !refB ((k : Int) + 1) || hasImm (Hfind.rowAt k).2.1) = true:=by kernel_rfl
theorem ref_imm {k : Nat} (hk : k < 58) (h : refB ((k : Int) + 1) = true) : hasImm (Hfind.rowAt k).2.1 = true:=by
 have:=List.all_eq_true.1 ref_shapes k (List.mem_range.2 hk)
 rw [h] at this
 simpa using this
theorem ref_s6 : ((List.range 58).all fun k => !refB ((k : Int) + 1) || decide ((Hfind.rowAt k).2.1 ≠ 6)) = true:=by kernel_rfl
theorem op_in {k : Nat} (hk : k < 58) : opV (sb (nameOf k)) = ((k : Int) + 1,0):=by
 unfold opV word_Find.f
 have hf : (List.range 58).find? (fun j => (Hfind.rowAt j).1.toList == (sb (nameOf k)).toList) = some k:=by
  rw [List.find?_range_eq_some]
  have e1 : (sb (nameOf k)).toList = nameOf k:=ByteArray.toList_eq ..
  have e2 : ∀ j,(Hfind.rowAt j).1.toList = nameOf j:=fun j => ByteArray.toList_eq ..
  refine ⟨by rw [e1,e2,names_eq hk hk]; simp,List.mem_range.2 hk,fun j hj => ?_⟩
  rw [e1,e2,names_eq (Nat.lt_trans hj hk) hk]
  simp; omega
 rw [hf]; rfl
theorem names_plain : ((List.range 58).all fun k => (nameOf k).all goodB && !(nameOf k).isEmpty && !(nameOf k == funcW) && !(nameOf k == tableW) && !(Lib.hasSuffix (nameOf k) [58])) = true:=by kernel_rfl
theorem name_plain {k : Nat} (hk : k < 58) : GoodW (nameOf k) ∧ nameOf k ≠ funcW ∧ nameOf k ≠ tableW ∧ Lib.hasSuffix (nameOf k) [58] = false:=by
 have h:=List.all_eq_true.1 names_plain k (List.mem_range.2 hk)
 simp only [Bool.and_eq_true,List.all_eq_true,Bool.not_eq_true',beq_eq_false_iff_ne] at h
 obtain ⟨⟨⟨⟨h1,h2⟩,h3⟩,h4⟩,h5⟩:=h
 exact ⟨⟨fun e => by rw [e] at h2; exact absurd h2 (by simp),h1⟩,h3,h4,h5⟩
def instrL (w : Int) : List (List UInt8) :=
 let k:=(dOp w - 1).toNat
 nameOf k :: (([(decV w).2.1,(decV w).2.2.1,(decV w).2.2.2.1].take (nReg (Hfind.rowAt k).2.1)).map (fun n => 114 :: itoa n) ++ if hasImm (Hfind.rowAt k).2.1 then [prefL ((k : Int) + 1) ++ itoa (dImm w)] else [])
theorem line_instr (w : Int) : lineW w = lineOf (instrL w):=by
 unfold lineW lineL instrL lineOf
 generalize (dOp w - 1).toNat = k
 simp only
 rw [List.append_assoc]
 have e1 : (Hfind.rowAt k).1.data.toList = nameOf k:=rfl
 rw [e1]
 congr 1
 rw [List.flatMap_append]
 congr 1
 ·rw [List.flatMap_map]
  rfl
 ·unfold immL hasImm
  split <;> simp
def caseWs (c : S46) : List (List UInt8):=(if c.f0 then sendW else recvW) :: (caseR c).map fun n => 114 :: itoa n
theorem line_case (c : S46) : caseL c = lineOf (caseWs c):=by
 unfold caseL caseWs lineOf
 simp only
 rw [List.flatMap_map]
 rfl
def headWs (i : Nat) (t : S44) : List (List UInt8):=tableW :: (116 :: itoa (i : Int)) :: (if t.f1 then [defW] else [])
def tabWs (i : Nat) (t : S44) : List (List (List UInt8)):=headWs i t :: t.f0.map caseWs
def tabsWs : Nat → List S44 → List (List (List UInt8))
 | _,[] => []
 | i,t :: r => tabWs i t ++ tabsWs (i + 1) r
theorem text_app (A B : List (List (List UInt8))) : textOf (A ++ B) = textOf A ++ textOf B:=by unfold textOf; rw [List.flatMap_append]
theorem text_cons (a : List (List UInt8)) (B : List (List (List UInt8))) : textOf (a :: B) = lineOf a ++ [10] ++ textOf B:=by unfold textOf; rw [List.flatMap_cons]
theorem text_tab (i : Nat) (t : S44) : tabL i t = textOf (tabWs i t):=by
 unfold tabL tabWs casesL
 rw [text_cons]
 have e : t.f0.flatMap (fun c => caseL c ++ [10]) = textOf (t.f0.map caseWs):=by
  unfold textOf
  rw [List.flatMap_map]
  congr 1
  funext c
  rw [line_case]
 rw [e]
 congr 1
 unfold headWs lineOf
 cases t.f1 <;> simp [tableW,defW]
theorem text_tabs : ∀ (l : List S44) (i : Nat),tabsL i l = textOf (tabsWs i l)
 | [],i => rfl
 | t :: r,i => by rw [tabsL,tabsWs,text_app,text_tab,text_tabs r]
def codeWs (tg : Int → Bool) : Int → List Int → List (List (List UInt8))
 | _,[] => []
 | at_,w :: r => (if tg at_ then [[76 :: itoa at_ ++ [58]]] else []) ++ instrL w :: codeWs tg (at_ + 1) r
theorem text_code (tg : Int → Bool) : ∀ (r : List Int) (at_ : Int),codeL tg at_ r = textOf (codeWs tg at_ r)
 | [],_ => rfl
 | w :: r,at_ => by
  rw [codeL,codeWs,text_app,text_cons,← line_instr,text_code tg r]
  cases tg at_ <;> simp [textOf,lineOf]
def funcWs (tg : Int → Bool) (l0 : List Int) (i : Nat) (f : S41) : List (List (List UInt8)):=[funcW,102 :: itoa (i : Int)] :: codeWs tg f.f0 (wordsOf l0 f)
def funcsWs (tg : Int → Bool) (l0 : List Int) : Nat → List S41 → List (List (List UInt8))
 | _,[] => []
 | i,f :: r => funcWs tg l0 i f ++ funcsWs tg l0 (i + 1) r
theorem text_func (tg : Int → Bool) (l0 : List Int) (i : Nat) (f : S41) : funcL tg l0 i f = textOf (funcWs tg l0 i f):=by
 unfold funcL funcWs
 rw [text_cons,← text_code]
 simp [lineOf,funcW]
theorem text_funcs (tg : Int → Bool) (l0 : List Int) : ∀ (l : List S41) (i : Nat),funcsL tg l0 i l = textOf (funcsWs tg l0 i l)
 | [],i => rfl
 | f :: r,i => by rw [funcsL,funcsWs,text_app,text_func,text_funcs tg l0 r]
theorem reg_good (n : Int) : GoodW (114 :: itoa n):=cons_good rfl (itoa_good n).2
theorem instr_good {w : Int} (h : (dOp w - 1).toNat < 58) : ∀ x ∈ instrL w,GoodW x:=by
 intro x hx
 unfold instrL at hx
 generalize (dOp w - 1).toNat = k at h hx
 rcases List.mem_cons.1 hx with rfl | hx
 ·exact (name_plain h).1
 ·rcases List.mem_append.1 hx with hx | hx
  ·obtain ⟨n,_,rfl⟩:=List.mem_map.1 hx
   exact reg_good n
  ·split at hx
   ·rw [List.mem_singleton] at hx
    subst hx
    have hg:=itoa_good (dImm w)
    refine ⟨fun e => hg.1 (List.append_eq_nil_iff.1 e).2,fun b hb => ?_⟩
    rcases List.mem_append.1 hb with hb | hb
    ·unfold prefL at hb
     split at hb
     ·simp at hb; subst hb; rfl
     ·split at hb
      ·simp at hb; subst hb; rfl
      ·split at hb
       ·simp at hb; subst hb; rfl
       ·cases hb
    ·exact hg.2 b hb
   ·cases hx
theorem case_good (c : S46) : ∀ x ∈ caseWs c,GoodW x:=by
 intro x hx
 rcases List.mem_cons.1 hx with rfl | hx
 ·cases c.f0
  ·exact ⟨by decide,by decide⟩
  ·exact ⟨by decide,by decide⟩
 ·obtain ⟨n,_,rfl⟩:=List.mem_map.1 hx
  exact reg_good n
theorem head_good (i : Nat) (t : S44) : ∀ x ∈ headWs i t,GoodW x:=by
 intro x hx
 rcases List.mem_cons.1 hx with rfl | hx
 ·exact ⟨by decide,by decide⟩
 ·rcases List.mem_cons.1 hx with rfl | hx
  ·exact cons_good rfl (itoa_good _).2
  ·split at hx
   ·rw [List.mem_singleton] at hx; subst hx; exact ⟨by decide,by decide⟩
   ·cases hx
theorem tabs_good : ∀ (l : List S44) (i : Nat),∀ ws ∈ tabsWs i l,∀ x ∈ ws,GoodW x
 | [],i,ws,h => by cases h
 | t :: r,i,ws,h => by
  rcases List.mem_append.1 h with h | h
  ·rcases List.mem_cons.1 h with rfl | h
   ·exact head_good i t
   ·obtain ⟨c,_,rfl⟩:=List.mem_map.1 h
    exact case_good c
  ·exact tabs_good r (i + 1) ws h
theorem code_good (tg : Int → Bool) : ∀ (r : List Int) (at_ : Int),(∀ w ∈ r,(dOp w - 1).toNat < 58) → ∀ ws ∈ codeWs tg at_ r,∀ x ∈ ws,GoodW x
 | [],_,_,ws,h => by cases h
 | w :: r,at_,hr,ws,h => by
  rcases List.mem_append.1 h with h | h
  ·split at h
   ·rw [List.mem_singleton] at h
    subst h
    intro x hx
    rw [List.mem_singleton] at hx
    subst hx
    exact cons_good rfl (fun b hb => by
     rcases List.mem_append.1 hb with hb | hb
     ·exact (itoa_good at_).2 b hb
     ·rw [List.mem_singleton] at hb; subst hb; rfl)
   ·cases h
  ·rcases List.mem_cons.1 h with rfl | h
   ·exact instr_good (hr w List.mem_cons_self)
   ·exact code_good tg r (at_ + 1) (fun x hx => hr x (List.mem_cons_of_mem _ hx)) ws h
theorem funcs_good (tg : Int → Bool) (l0 : List Int) : ∀ (l : List S41) (i : Nat),(∀ f ∈ l,∀ w ∈ wordsOf l0 f,(dOp w - 1).toNat < 58) → ∀ ws ∈ funcsWs tg l0 i l,∀ x ∈ ws,GoodW x
 | [],i,_,ws,h => by cases h
 | f :: r,i,hr,ws,h => by
  rcases List.mem_append.1 h with h | h
  ·rcases List.mem_cons.1 h with rfl | h
   ·intro x hx
    rcases List.mem_cons.1 hx with rfl | hx
    ·exact ⟨by decide,by decide⟩
    ·rw [List.mem_singleton] at hx; subst hx
     exact cons_good rfl (itoa_good _).2
   ·exact code_good tg _ _ (hr f List.mem_cons_self) ws h
  ·exact funcs_good tg l0 r (i + 1) (fun g hg => hr g (List.mem_cons_of_mem _ hg)) ws h
end Go.Proofs.YtdbpglhdicmhhaaGreatDoor.Q
end

section
namespace Go.Proofs.YtdbpglhdicmhhaaGreatDoor.Q
open Go.RowKit Go.Lib Num Go.Proofs.YtdbpglhdicmhhaaGreatDoor.GA Go.Proofs.YtdbpglhdicmhhaaGreatDoor.Hfits Go.Proofs.YtdbpglhdicmhhaaGreatDoor.Hof
theorem sb_inj {a b : List UInt8} (h : sb a = sb b) : a = b:=by
 have:=congrArg (fun x : ByteArray => x.data.toList) h
 exact this
theorem name_inj {c : UInt8} {i j : Nat} (h : sb (c :: itoa (i : Int)) = sb (c :: itoa (j : Int))) : i = j:=by
 have h1:=List.tail_eq_of_cons_eq (sb_inj h)
 rw [itoa_nonneg,itoa_nonneg] at h1
 have e1:=dfold_dec i i (Nat.le_refl _) []
 have e2:=dfold_dec j j (Nat.le_refl _) []
 rw [List.append_nil,dfold_nil] at e1 e2
 rw [← e1,← e2,h1]
def NamesOK (c : UInt8) (n : Nat) (f : ByteArray → Option Int) : Prop:=(∀ i : Nat,i < n → f (sb (c :: itoa (i : Int))) = some (i : Int)) ∧ ∀ i : Nat,n ≤ i → f (sb (c :: itoa (i : Int))) = none
theorem NamesOK.step {c : UInt8} {n : Nat} {f : ByteArray → Option Int} (h : NamesOK c n f) : NamesOK c (n + 1) (fun y => if y = sb (c :: itoa (n : Int)) then some (n : Int) else f y):=by
 refine ⟨fun i hi => ?_,fun i hi => ?_⟩
 ·by_cases e : i = n
  ·subst e; exact if_pos rfl
  ·show (if _ then _ else _) = _
   rw [if_neg (fun x => e (name_inj x))]
   exact h.1 i (by omega)
 ·show (if _ then _ else _) = _
  rw [if_neg (fun x => by have:=name_inj x; omega)]
  exact h.2 i (by omega)
theorem closed_nil {s : St} (h : s.opn = []) : s.closed = s:=by
 obtain ⟨a1,a2,a3,a4,a5,a6,a7,a8,a9,a10,a11,a12,a13,a14⟩:=s
 obtain rfl : a5 = []:=h
 rfl
theorem bad0 (s : St) (n : Int) : s.bad 0 n = s:=rfl
theorem bl_sb (l : List (List UInt8)) : bl (l.map sb) = l:=by
 unfold bl
 rw [List.map_map]
 conv => rhs; rw [← List.map_id l]
 rfl
theorem run_app (s : St) : ∀ (A B : List (List ByteArray)) (n : Nat),s.run n (A ++ B) = (s.run n A).run (n + A.length) B:=by
 intro A
 induction A generalizing s with
 | nil => intro B n; rfl
 | cons a A ih =>
  intro B n
  rw [List.cons_append,run_cons,run_cons,ih,List.length_cons]
  congr 1
  omega
theorem at_cons (s : St) (n : Nat) (w : ByteArray) (r : List ByteArray) : s.atLine n (w :: r) = St.read { s with now:=(n + 1 : Nat) } (w :: r):=if_neg (by simp)
structure InT (s : St) (T : List S44) : Prop where
 code : s.code = []
 funcs : s.funcs = []
 ins : s.ins = []
 opn : s.opn = []
 uses : s.uses = []
 wrong : s.wrong = 0
 idle : s.idle = true
 tabs : s.tabs = tabsD T
 fm : ∀ y,s.fm y = none
 lm : ∀ p,s.lm p = none
 tm : NamesOK 116 T.length s.tm
theorem start_in : InT st0 []:=⟨rfl,rfl,rfl,rfl,rfl,rfl,rfl,rfl,fun _ => rfl,fun _ => rfl,⟨fun i h => absurd h (Nat.not_lt_zero _),fun _ _ => rfl⟩⟩
theorem read_head {s : St} {T : List S44} (h : InT s T) (t : S44) (hT : T.length < 10000000000) (n : Nat) : InT (s.atLine n ((headWs T.length t).map sb)) (T ++ [⟨[],t.f1⟩]) ∧ (s.atLine n ((headWs T.length t).map sb)).cases = true:=by
 have hnm : nameB (sb (116 :: itoa (T.length : Int))).data.toList = true:=num_name 116 rfl T.length hT
 have hw : tabName ((headWs T.length t).map sb) = some (sb (116 :: itoa (T.length : Int))):=by
  unfold headWs
  cases t.f1
  ·show tabName [_,_] = _
   rw [tabName2,if_pos hnm]
  ·show tabName [_,_,_] = _
   rw [tabName3,if_pos ⟨hnm,rfl⟩]
 have hl : (((headWs T.length t).map sb).length == 3) = t.f1:=by
  unfold headWs
  cases t.f1 <;> rfl
 have e : s.atLine n ((headWs T.length t).map sb) = St.table { s with now:=(n + 1 : Nat),cases:=true } ((headWs T.length t).map sb):=by
  unfold headWs
  rw [List.map_cons,at_cons]
  rfl
 rw [e]
 have hm : ({ s with now:=((n + 1 : Nat) : Int),cases:=true } : St).tm (sb (116 :: itoa (T.length : Int))) = none:=h.tm.2 _ (Nat.le_refl _)
 rw [table_new hw (by rw [hm]; rfl)]
 have hc : St.closed { s with now:=((n + 1 : Nat) : Int),cases:=true } = { s with now:=((n + 1 : Nat) : Int),cases:=true }:=closed_nil h.opn
 have htl : s.tabs.length = T.length:=by rw [h.tabs,List.length_map]
 unfold St.table0
 rw [hc,hl]
 refine ⟨⟨h.code,h.funcs,h.ins,h.opn,h.uses,h.wrong,rfl,?_,h.fm,h.lm,?_⟩,rfl⟩
 ·show s.tabs ++ [(t.f1,[])] = _
  rw [h.tabs,tabsD,tabsD,List.map_append]; rfl
 ·have:=h.tm.step
  rw [List.length_append]
  show NamesOK 116 (T.length + 1) (fun y => if y = _ then some (s.tabs.length : Int) else s.tm y)
  rw [htl]
  exact this
theorem set_last {α : Type} (A : List α) (x y d : α) : (A ++ [x]).set ((A ++ [x]).length - 1) y = A ++ [y] ∧ (A ++ [x]).getD ((A ++ [x]).length - 1) d = x:=by
 have e : (A ++ [x]).length - 1 = A.length:=by simp
 rw [e]
 refine ⟨?_,?_⟩
 ·rw [List.set_append_right _ _ (Nat.le_refl _)]; simp
 ·rw [List.getD_eq_getElem?_getD,List.getElem?_append_right (Nat.le_refl _)]; simp
theorem read_case {s : St} {T : List S44} {t : S44} (h : InT s (T ++ [t])) (hc : s.cases = true) {c : S46} (hok : caseOk c = true) (n : Nat) : InT (s.atLine n ((caseWs c).map sb)) (T ++ [⟨t.f0 ++ [plainC c],t.f1⟩]) ∧ (s.atLine n ((caseWs c).map sb)).cases = true:=by
 have hr : ∀ x ∈ caseR c,0 ≤ x ∧ x < 16:=by
  unfold caseOk regOk at hok
  unfold caseR
  simp at hok
  obtain ⟨⟨h1,h2⟩,h3⟩:=hok
  cases hf : c.f0 with
  | true => simp; exact ⟨h1,h2⟩
  | false => rw [hf] at h3; simp at h3; simp; exact ⟨h1,h2,h3⟩
 have hlen : ((caseR c).map fun n => 114 :: itoa n).map sb = ((caseR c).map fun n => 114 :: itoa n).map sb:=rfl
 have hrest : (((caseR c).map fun n => 114 :: itoa n).map sb).length = (if c.f0 then 2 else 3):=by
  rw [List.length_map,List.length_map]
  unfold caseR
  cases c.f0 <;> rfl
 have hregs : regsV [] 0 (bl (((caseR c).map fun n => 114 :: itoa n).map sb)) = (caseR c,0):=by rw [bl_sb,regs_itoa _ _ hr,List.nil_append]
 have hof : caseOf c.f0 (caseR c) = ((plainC c).f0,[(plainC c).f1,(plainC c).f2,(plainC c).f3]):=by
  unfold caseOf caseR plainC
  obtain ⟨b,x,y,z⟩:=c
  cases b <;> rfl
 have e : s.atLine n ((caseWs c).map sb) = St.addCase { s with now:=((n + 1 : Nat) : Int) } ((plainC c).f0,[(plainC c).f1,(plainC c).f2,(plainC c).f3]):=by
  have hp : ∀ s' : St,s'.pick c.f0 (((caseR c).map fun n => 114 :: itoa n).map sb) = (s'.addCase ((plainC c).f0,[(plainC c).f1,(plainC c).f2,(plainC c).f3]),0):=fun s' => by
   rw [pick_ok hrest (by rw [hregs]),hregs,hof]
  unfold caseWs
  rw [List.map_cons,at_cons]
  have hp':=hp { s with now:=((n + 1 : Nat) : Int) }
  revert hp'
  generalize ((caseR c).map fun n => 114 :: itoa n).map sb = r
  intro hp'
  cases hf : c.f0 with
  | true =>
   rw [hf] at hp'
   show (if s.cases && true then ((St.pick { s with now:=((n + 1 : Nat) : Int) } true r).1.bad (St.pick { s with now:=((n + 1 : Nat) : Int) } true r).2 _) else _) = _
   rw [if_pos (by rw [hc]; rfl),hp']
   rfl
  | false =>
   rw [hf] at hp'
   show (if s.cases && true then ((St.pick { s with now:=((n + 1 : Nat) : Int) } false r).1.bad (St.pick { s with now:=((n + 1 : Nat) : Int) } false r).2 _) else _) = _
   rw [if_pos (by rw [hc]; rfl),hp']
   rfl
 rw [e]
 refine ⟨⟨h.code,h.funcs,h.ins,h.opn,h.uses,h.wrong,h.idle,?_,h.fm,h.lm,?_⟩,hc⟩
 ·show s.tabs.set _ _ = _
  have ht : s.tabs = tabsD T ++ [(t.f1,casesD t.f0)]:=by rw [h.tabs,tabsD,List.map_append]; rfl
  show s.tabs.set (s.tabs.length - 1) ((s.tabs.getD (s.tabs.length - 1) (false,[])).1,(s.tabs.getD (s.tabs.length - 1) (false,[])).2 ++ [_]) = _
  rw [ht,(set_last _ _ (false,[]) (false,[])).2,(set_last _ _ _ (false,[])).1]
  rw [tabsD,tabsD,List.map_append]
  simp [casesD]
 ·have:=h.tm
  rw [List.length_append] at this ⊢
  exact this
theorem run_cases {t : S44} {T : List S44} : ∀ (cs done : List S46) (s : St) (n : Nat),InT s (T ++ [⟨done,t.f1⟩]) → s.cases = true → cs.all caseOk = true → InT (s.run n ((cs.map caseWs).map (·.map sb))) (T ++ [⟨done ++ cs.map plainC,t.f1⟩])
 | [],done,s,n,h,_,_ => by
  show InT s (T ++ [⟨done ++ [],t.f1⟩])
  rw [List.append_nil]; exact h
 | c :: cs,done,s,n,h,hc,hok => by
  rw [List.all_cons,Bool.and_eq_true] at hok
  obtain ⟨h1,h2⟩:=read_case h hc hok.1 n
  rw [List.map_cons,List.map_cons,run_cons]
  have:=run_cases cs (done ++ [plainC c]) _ (n + 1) h1 h2 hok.2
  rwa [List.append_assoc] at this
theorem run_tabs : ∀ (l T : List S44) (s : St) (n : Nat),InT s T → tabsOk l = true → T.length + l.length < 10000000000 → InT (s.run n ((tabsWs T.length l).map (·.map sb))) (T ++ plainL l)
 | [],T,s,n,h,_,_ => by rw [plainL,List.map_nil,List.append_nil]; exact h
 | t :: l,T,s,n,h,hok,hb => by
  unfold tabsOk at hok
  rw [List.all_cons,Bool.and_eq_true] at hok
  rw [List.length_cons] at hb
  obtain ⟨h1,h2⟩:=read_head h t (by omega) n
  rw [tabsWs,tabWs,List.map_append,run_app,List.map_cons,run_cons]
  have h3:=run_cases (t:=t) t.f0 [] _ (n + 1) h1 h2 hok.1
  rw [List.nil_append] at h3
  have h4:=run_tabs l (T ++ [⟨t.f0.map plainC,t.f1⟩]) _ (n + (((headWs T.length t).map sb) :: (t.f0.map caseWs).map (·.map sb)).length) h3 hok.2 (by rw [List.length_append]; simp; omega)
  rw [List.length_append,List.length_singleton] at h4
  rw [List.append_assoc] at h4
  exact h4
end Go.Proofs.YtdbpglhdicmhhaaGreatDoor.Q
end
