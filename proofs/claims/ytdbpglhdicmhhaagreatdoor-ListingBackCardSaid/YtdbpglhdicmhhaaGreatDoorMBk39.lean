import Derived.Test.YtdbpglhdicmhhaaGreatDoorMBk38
set_option linter.unusedVariables false
set_option linter.unusedSimpArgs false
section
namespace Go.Proofs.YtdbpglhdicmhhaaGreatDoor.Q
open Go.RowKit Go.Lib Num Go.Proofs.YtdbpglhdicmhhaaGreatDoor.GA Go.Proofs.YtdbpglhdicmhhaaGreatDoor.Hfits Go.Proofs.YtdbpglhdicmhhaaGreatDoor.Hof
def insO (w : Int) : List Int:=[dOp w,(decV w).2.1,(decV w).2.2.1,(decV w).2.2.2.1,if refB (dOp w) then 0 else dImm w]
def nameU (w : Int) : ByteArray:=sb (prefL (dOp w) ++ itoa (dImm w))
structure Base (l0 : List Int) (l1 : List S41) (l2 : List S44) (tg : Int → Bool) (s : St) (j at_ : Nat) : Prop where
 code : s.code = (l0.take at_).map fun w => encV (insO w)
 ins : s.ins = (l0.take at_).map insO
 tabs : s.tabs = tabsD (plainL l2)
 wrong : s.wrong = 0
 tm : NamesOK 116 l2.length s.tm
 lmL : ∀ (i : Nat) (f : S41) (m : Nat),l1[i]? = some f → i < j → f.f0 ≤ (m : Int) → (m : Int) < f.f1 → m < at_ → tg (m : Int) = true → s.lm (((i + 1 : Nat) : Int),sb (76 :: itoa (m : Int))) = some (m : Int)
 lmN : ∀ (fn : Nat) y,j < fn → s.lm ((fn : Int),y) = none
 usesI : ∀ u ∈ s.uses,∃ (q i : Nat) (ln w : Int) (f : S41),u = ([(q : Int),((i + 1 : Nat) : Int),ln,dOp w],nameU w) ∧ l0[q]? = some w ∧ q < at_ ∧ refB (dOp w) = true ∧ l1[i]? = some f ∧ f.f0 ≤ (q : Int) ∧ (q : Int) < f.f1 ∧ i < j
 usesC : ∀ (q : Nat) (w : Int),l0[q]? = some w → q < at_ → refB (dOp w) = true → ∃ u ∈ s.uses,u.1.getD 0 0 = (q : Int)
structure Pre (l0 : List Int) (l1 : List S41) (l2 : List S44) (tg : Int → Bool) (s : St) (j at_ : Nat) : Prop where
 base : Base l0 l1 l2 tg s j at_
 opn : s.opn = []
 funcs : s.funcs = funcsD (l1.take j)
 fm : NamesOK 102 j s.fm
 prev : ∀ (i : Nat) (g : S41),l1[i]? = some g → i < j → g.f1 ≤ (at_ : Int)
structure InF (l0 : List Int) (l1 : List S41) (l2 : List S44) (tg : Int → Bool) (s : St) (j : Nat) (f : S41) (at_ : Nat) (lab : Bool) : Prop where
 base : Base l0 l1 l2 tg s (j + 1) at_
 at1 : l1[j]? = some f
 funcs : s.funcs = funcsD (l1.take j) ++ [[f.f0,(at_ : Int)]]
 fm : NamesOK 102 (j + 1) s.fm
 cases : s.cases = false
 idle : s.idle = false
 opn : lab = false → s.opn = []
 now : lab = true → s.lm (((j + 1 : Nat) : Int),sb (76 :: itoa (at_ : Int))) = some (at_ : Int)
 new : ∀ m : Nat,at_ + (if lab then 1 else 0) ≤ m → s.lm (((j + 1 : Nat) : Int),sb (76 :: itoa (m : Int))) = none
 prev : ∀ (i : Nat) (g : S41),l1[i]? = some g → i < j → g.f1 ≤ (at_ : Int)
section
variable {l0 : List Int} {l1 : List S41} {l2 : List S44} {tg : Int → Bool}
theorem Base.like {s s' : St} {j at_ : Nat} (h : Base l0 l1 l2 tg s j at_) (h1 : s'.code = s.code:=by rfl) (h2 : s'.ins = s.ins:=by rfl) (h3 : s'.tabs = s.tabs:=by rfl) (h4 : s'.wrong = s.wrong:=by rfl) (h5 : s'.tm = s.tm:=by rfl) (h6 : s'.lm = s.lm:=by rfl) (h7 : s'.uses = s.uses:=by rfl) : Base l0 l1 l2 tg s' j at_ :=
 ⟨h1 ▸ h.code,h2 ▸ h.ins,h3 ▸ h.tabs,h4 ▸ h.wrong,h5 ▸ h.tm,h6 ▸ h.lmL,h6 ▸ h.lmN,h7 ▸ h.usesI,h7 ▸ h.usesC⟩
theorem read_func {s : St} {j at_ : Nat} {f : S41} (h : Pre l0 l1 l2 tg s j at_) (hf : l1[j]? = some f) (h0 : f.f0 = (at_ : Int)) (hat : at_ ≤ l0.length) (hj : j < 10000000000) (n : Nat) : InF l0 l1 l2 tg (s.atLine n ([funcW,102 :: itoa (j : Int)].map sb)) j f at_ false:=by
 have hnm : nameB (sb (102 :: itoa (j : Int))).data.toList = true:=num_name 102 rfl j hj
 have e : s.atLine n ([funcW,102 :: itoa (j : Int)].map sb) = St.fn { s with now:=((n + 1 : Nat) : Int),cases:=false } ([funcW,102 :: itoa (j : Int)].map sb):=by
  rw [List.map_cons,at_cons]
  rfl
 have hil : s.ins.length = at_:=by rw [h.base.ins,List.length_map,List.length_take]; omega
 have hjl : j ≤ l1.length:=Nat.le_of_lt (List.getElem?_eq_some_iff.1 hf).1
 have hfl : s.funcs.length = j:=by rw [h.funcs,List.length_map,List.length_take]; omega
 have hc : St.closed { s with now:=((n + 1 : Nat) : Int),cases:=false } = { s with now:=((n + 1 : Nat) : Int),cases:=false }:=closed_nil h.opn
 have hm : s.fm (sb (102 :: itoa (j : Int))) = none:=h.fm.2 _ (Nat.le_refl _)
 have e2 : St.fn { s with now:=((n + 1 : Nat) : Int),cases:=false } ([funcW,102 :: itoa (j : Int)].map sb) = { s with now:=((n + 1 : Nat) : Int),cases:=false,idle:=false,funcs:=s.funcs ++ [[(at_ : Int),(at_ : Int)]],fm:=fun y => if y = sb (102 :: itoa (j : Int)) then some (j : Int) else s.fm y }:=by
  show (if nameB _ then (if (s.fm _).isSome then _ else _) else _) = _
  rw [if_pos hnm,if_neg (by rw [hm]; simp)]
  unfold St.fn0
  rw [hc]
  show ({ s with now:=_,cases:=false,idle:=false,funcs:=s.funcs ++ [[(s.ins.length : Int),(s.ins.length : Int)]],fm:=fun y => if y = _ then some (s.funcs.length : Int) else s.fm y } : St) = _
  rw [hil,hfl]
 rw [e,e2]
 have hb:=h.base
 refine ⟨⟨hb.code,hb.ins,hb.tabs,hb.wrong,hb.tm,fun i g m hi hij h1 h2 h3 h4 => ?_,fun fn y hfn => hb.lmN fn y (by omega),fun u hu => ?_,hb.usesC⟩,hf,?_,?_,rfl,rfl,fun _ => h.opn,(fun hx => by cases hx),fun m hm => hb.lmN _ _ (by omega),h.prev⟩
 ·rcases Nat.lt_or_ge i j with hij2 | hij2
  ·exact hb.lmL i g m hi hij2 h1 h2 h3 h4
  ·obtain rfl : i = j:=by omega
   obtain rfl:=Option.some.inj (hf.symm.trans hi)
   omega
 ·obtain ⟨q,i,ln,w,g,h1,h2,h3,h4,h5,h6,h7,h8⟩:=hb.usesI u hu
  exact ⟨q,i,ln,w,g,h1,h2,h3,h4,h5,h6,h7,by omega⟩
 ·show s.funcs ++ _ = _
  rw [h.funcs,h0]
 ·exact h.fm.step
theorem read_label {s : St} {j at_ : Nat} {f : S41} (h : InF l0 l1 l2 tg s j f at_ false) (hat : at_ ≤ l0.length) (hb : at_ < 10000000000) (n : Nat) : InF l0 l1 l2 tg (s.atLine n ([76 :: itoa (at_ : Int) ++ [58]].map sb)) j f at_ true:=by
 have hnm : nameB (sb (76 :: itoa (at_ : Int))).data.toList = true:=num_name 76 rfl at_ hb
 have hsf : Lib.hasSuffix (76 :: itoa (at_ : Int) ++ [58]) [58] = true:=by
  unfold Lib.hasSuffix
  rw [List.isSuffixOf_iff_suffix]
  exact ⟨_,rfl⟩
 have htr : Lib.trimSuffix (76 :: itoa (at_ : Int) ++ [58]) [58] = 76 :: itoa (at_ : Int):=by
  unfold Lib.trimSuffix
  rw [hsf]
  simp
 have hfl : s.funcs.length = j + 1:=by
  have:=(List.getElem?_eq_some_iff.1 h.at1).1
  rw [h.funcs,List.length_append,List.length_map,List.length_take,List.length_singleton]; omega
 have hil : s.ins.length = at_:=by rw [h.base.ins,List.length_map,List.length_take]; omega
 have hlm : s.lm (((j + 1 : Nat) : Int),sb (76 :: itoa (at_ : Int))) = none:=h.new at_ (by simp)
 have hh : ∀ t : List UInt8,isW (sb (76 :: t)) funcW = false ∧ isW (sb (76 :: t)) tableW = false:=fun t => ⟨rfl,rfl⟩
 have e : s.atLine n ([76 :: itoa (at_ : Int) ++ [58]].map sb) = (St.mark { s with now:=((n + 1 : Nat) : Int),cases:=false } (sb (76 :: itoa (at_ : Int)))).1.bad (St.mark { s with now:=((n + 1 : Nat) : Int),cases:=false } (sb (76 :: itoa (at_ : Int)))).2 ((n + 1 : Nat) : Int):=by
  rw [List.map_cons,at_cons]
  unfold St.read
  simp only
  have hw:=hh (itoa (at_ : Int) ++ [58])
  rw [List.cons_append,hw.1,hw.2,if_neg (by simp),if_neg (by simp),h.cases,if_neg (by simp),if_pos ⟨rfl,hsf⟩]
  have e3 : (⟨(Lib.trimSuffix (sb (76 :: (itoa (at_ : Int) ++ [58]))).data.toList [58]).toArray⟩ : ByteArray) = sb (76 :: itoa (at_ : Int)):=congrArg sb htr
  rw [e3]
 have e2 : St.mark { s with now:=((n + 1 : Nat) : Int),cases:=false } (sb (76 :: itoa (at_ : Int))) = ({ s with now:=((n + 1 : Nat) : Int),cases:=false,opn:=s.opn ++ [((n + 1 : Nat) : Int)],lm:=fun y => if y = (((j + 1 : Nat) : Int),sb (76 :: itoa (at_ : Int))) then some (at_ : Int) else s.lm y },0):=by
  rw [mark_new (s:={ s with now:=((n + 1 : Nat) : Int),cases:=false }) hnm h.idle (by show (s.lm ((s.funcs.length : Int),_)).isSome = false; rw [hfl,hlm]; rfl)]
  unfold St.mark0
  show (({ s with now:=_,cases:=false,opn:=s.opn ++ [_],lm:=fun y => if y = ((s.funcs.length : Int),_) then some (s.ins.length : Int) else s.lm y } : St),(0 : Int)) = _
  rw [hfl,hil]
 rw [e,e2]
 rw [bad0]
 have hbs:=h.base
 refine ⟨⟨hbs.code,hbs.ins,hbs.tabs,hbs.wrong,hbs.tm,fun i g m hi hij h1 h2 h3 h4 => ?_,fun fn y hfn => ?_,hbs.usesI,hbs.usesC⟩,h.at1,h.funcs,h.fm,rfl,h.idle,(fun hx => by cases hx),fun _ => if_pos rfl,fun m hm => ?_,h.prev⟩
 ·show (if _ then _ else _) = _
  rw [if_neg (fun x => by have:=name_inj (Prod.mk.inj x).2; omega)]
  exact hbs.lmL i g m hi hij h1 h2 h3 h4
 ·show (if _ then _ else _) = _
  rw [if_neg (fun x => by have:=(Prod.mk.inj x).1; omega)]
  exact hbs.lmN fn y hfn
 ·show (if _ then _ else _) = _
  rw [if_neg (fun x => by have:=name_inj (Prod.mk.inj x).2; simp at hm; omega)]
  exact h.new m (by simp at hm ⊢; omega)
theorem take_regs {w : Int} {k : Nat} {a b c m : Int} (d : Dec w k a b c m) : (∀ x ∈ ([a,b,c] : List Int).take (nReg (Hfind.rowAt k).2.1),0 ≤ x ∧ x < 16) ∧ abcOf (([a,b,c] : List Int).take (nReg (Hfind.rowAt k).2.1)) = [a,b,c] ∧ nReg (Hfind.rowAt k).2.1 ≤ 3 ∧ (hasImm (Hfind.rowAt k).2.1 = false → m = 0) ∧ (hasImm (Hfind.rowAt k).2.1 = true → outOf (Hfind.rowAt k).2.1 m = false):=by
 have hf:=d.fit
 obtain ⟨_,_,s0,s1⟩:=cost_at d.hk
 generalize (Hfind.rowAt k).2.1 = s at *
 have hs : s = 0 ∨ s = 1 ∨ s = 2 ∨ s = 3 ∨ s = 4 ∨ s = 5 ∨ s = 6:=by omega
 unfold fitsB Hfits.reg at hf
 unfold nReg hasImm abcOf outOf
 rcases hs with rfl | rfl | rfl | rfl | rfl | rfl | rfl
 all_goals
  simp at hf ⊢
  omega
theorem regs_step {s : St} {w : Int} {k : Nat} {a b c m : Int} (d : Dec w k a b c m) (hid : s.idle = false) (q : Nat) :
  s.regs q ((k : Int) + 1) ((instrL w).tail.map sb) = (({ s with ins:=s.ins.set q (insO w),code:=s.code.set q (encV (insO w)),uses:=if refB ((k : Int) + 1) then s.uses ++ [([(q : Int),(s.funcs.length : Int),s.now,(k : Int) + 1],nameU w)] else s.uses } : St),0):=by
 obtain ⟨hr,habc,hn3,hm0,hout⟩:=take_regs d
 have hop : dOp w = (k : Int) + 1:=by unfold dOp; rw [d.dec]
 have him : dImm w = m:=by unfold dImm; rw [d.dec]
 have hk1 : (dOp w - 1).toNat = k:=by rw [hop]; omega
 have hins : insO w = [(k : Int) + 1,a,b,c,if refB ((k : Int) + 1) then 0 else m]:=by unfold insO; rw [hop,him,d.dec]
 have hnu : nameU w = sb (prefL ((k : Int) + 1) ++ itoa m):=by unfold nameU; rw [hop,him]
 have htail : (instrL w).tail.map sb = (([a,b,c] : List Int).take (nReg (Hfind.rowAt k).2.1)).map (fun n => sb (114 :: itoa n)) ++ (if hasImm (Hfind.rowAt k).2.1 then [nameU w] else []):=by
  unfold instrL
  simp only
  rw [hk1,List.tail_cons,List.map_append,List.map_map,d.dec,him,hnu]
  congr 1
  split <;> rfl
 have hlen3 : (([a,b,c] : List Int).take (nReg (Hfind.rowAt k).2.1)).length = nReg (Hfind.rowAt k).2.1:=by rw [List.length_take]; simp only [List.length_cons,List.length_nil]; omega
 have href : refB ((k : Int) + 1) = true → hasImm (Hfind.rowAt k).2.1 = true:=ref_imm d.hk
 have ref6 : refB ((k : Int) + 1) = true → (Hfind.rowAt k).2.1 ≠ 6:=fun hx => by
  have:=List.all_eq_true.1 ref_s6 k (List.mem_range.2 d.hk)
  rw [hx] at this
  simpa using this
 have hbd:=fits_bd d.fit
 rw [htail,hins]
 unfold St.regs
 rw [shape_in d.hk,fields_in]
 simp only [Int.toNat_natCast]
 generalize hsh : (Hfind.rowAt k).2.1 = sh at *
 have e1 : (((([a,b,c] : List Int).take (nReg sh)).map (fun n => sb (114 :: itoa n)) ++ (if hasImm sh then [nameU w] else [])).take (nReg sh)) = (([a,b,c] : List Int).take (nReg sh)).map (fun n => sb (114 :: itoa n)):=by
  rw [List.take_append_of_le_length (by rw [List.length_map]; omega)]
  rw [List.take_of_length_le (by rw [List.length_map]; omega)]
 have e2 : bl ((([a,b,c] : List Int).take (nReg sh)).map (fun n => sb (114 :: itoa n))) = (([a,b,c] : List Int).take (nReg sh)).map (fun n => 114 :: itoa n):=by
  unfold bl; rw [List.map_map]; rfl
 have e4 : (((([a,b,c] : List Int).take (nReg sh)).map (fun n => sb (114 :: itoa n)) ++ (if hasImm sh then [nameU w] else [])).length : Int) = (nReg sh : Int) + (if hasImm sh then 1 else 0):=by
  rw [List.length_append,List.length_map,hlen3]
  cases hasImm sh <;> simp
 rw [e4,if_neg (by simp),e1,e2,regs_itoa _ _ hr,List.nil_append,if_neg (by simp),habc]
 unfold St.imm
 rw [shape_in d.hk,fields_in,hsh]
 simp only [Int.toNat_natCast]
 cases hi : hasImm sh with
 | false =>
  have hrf : refB ((k : Int) + 1) = false:=by
   cases hx : refB ((k : Int) + 1) with
   | false => rfl
   | true => exact absurd (href hx) (by rw [hi]; simp)
  rw [if_pos rfl,fin_ok hid,hrf,hm0 hi]
  rfl
 | true =>
  rw [if_neg (by simp)]
  have hu : (((([a,b,c] : List Int).take (nReg sh)).map (fun n => sb (114 :: itoa n)) ++ (if true = true then [nameU w] else [])).getD (nReg sh) ByteArray.empty) = nameU w:=by
   rw [List.getD_eq_getElem?_getD,List.getElem?_append_right (by rw [List.length_map]; omega)]
   have : nReg sh - ((([a,b,c] : List Int).take (nReg sh)).map (fun n => sb (114 :: itoa n))).length = 0:=by rw [List.length_map]; omega
   rw [this,if_pos rfl]; rfl
  rw [hu,hnu]
  show (if (!(numV (prefL ((k : Int) + 1) ++ itoa m)).2 && (refersV ((k : Int) + 1) && nameB (prefL ((k : Int) + 1) ++ itoa m))) = true then _ else if (numV (prefL ((k : Int) + 1) ++ itoa m)).2 = false then _ else s.fin q (if outOf sh (numV (prefL ((k : Int) + 1) ++ itoa m)).1 then 73 else 0) (((k : Int) + 1) :: [a,b,c] ++ [(numV (prefL ((k : Int) + 1) ++ itoa m)).1])) = _
  rw [refers_in]
  cases hx : refB ((k : Int) + 1) with
  | false =>
   rw [(pref_ref _).2 hx,List.nil_append,num_itoa m (by omega) (by omega),if_neg (by simp),if_neg (by simp),hout hi,if_neg (by simp),fin_ok hid]
   rfl
  | true =>
   obtain ⟨ch,hch,hlt⟩ : ∃ ch,prefL ((k : Int) + 1) = [ch] ∧ letter ch = true:=by
    unfold prefL
    unfold refB at hx
    simp at hx
    by_cases h1 : (k : Int) + 1 = 17 ∨ (k : Int) + 1 = 18 ∨ (k : Int) + 1 = 19
    ·rw [if_pos h1]; exact ⟨76,rfl,rfl⟩
    ·rw [if_neg h1]
     by_cases h2 : (k : Int) + 1 = 20 ∨ (k : Int) + 1 = 22
     ·rw [if_pos h2]; exact ⟨102,rfl,rfl⟩
     ·rw [if_neg h2,if_pos (by omega)]; exact ⟨116,rfl,rfl⟩
   have hm : 0 ≤ m:=by
    have h6:=ref6 hx
    have h7:=hout hi
    unfold outOf at h7
    rw [if_neg h6] at h7
    simp at h7
    omega
   obtain ⟨u,rfl⟩ : ∃ u : Nat,m = (u : Int):=⟨m.toNat,by omega⟩
   rw [hch,List.singleton_append,num_none ch hlt,num_name ch hlt u (by omega),if_pos rfl]
   rw [fin_ok (s:={ s with uses:=s.uses ++ [([(q : Int),(s.funcs.length : Int),s.now,(k : Int) + 1],sb (ch :: itoa (u : Int)))] }) hid]
   rfl
end
end Go.Proofs.YtdbpglhdicmhhaaGreatDoor.Q
end
