import Derived.Test.YtdbpglhdicmhhaaGreatDoorMBk39
set_option linter.unusedVariables false
set_option linter.unusedSimpArgs false
section
namespace Go.Proofs.YtdbpglhdicmhhaaGreatDoor.Q
open Go.RowKit Go.Lib Num Go.Proofs.YtdbpglhdicmhhaaGreatDoor.GA Go.Proofs.YtdbpglhdicmhhaaGreatDoor.Hfits Go.Proofs.YtdbpglhdicmhhaaGreatDoor.Hof
section
variable {l0 : List Int} {l1 : List S41} {l2 : List S44} {tg : Int → Bool}
theorem set_end {α : Type} (A : List α) (x y : α) (n : Nat) (h : A.length = n) : (A ++ [x]).set n y = A ++ [y]:=by
 subst h
 rw [List.set_append_right _ _ (Nat.le_refl _)]; simp
theorem read_instr {s : St} {j at_ : Nat} {f : S41} {lab : Bool} (h : InF l0 l1 l2 tg s j f at_ lab) (hlab : lab = tg (at_ : Int)) (hf0 : f.f0 ≤ (at_ : Int)) (hf1 : (at_ : Int) < f.f1) {w : Int} (hw : l0[at_]? = some w) {k : Nat} {a b c m : Int} (d : Dec w k a b c m) (n : Nat) :
  InF l0 l1 l2 tg (s.atLine n ((instrL w).map sb)) j f (at_ + 1) false:=by
 have hop : dOp w = (k : Int) + 1:=by unfold dOp; rw [d.dec]
 have hk1 : (dOp w - 1).toNat = k:=by rw [hop]; omega
 have hat : at_ < l0.length:=(List.getElem?_eq_some_iff.1 hw).1
 have hil : s.ins.length = at_:=by rw [h.base.ins,List.length_map,List.length_take]; omega
 have hcl : s.code.length = at_:=by rw [h.base.code,List.length_map,List.length_take]; omega
 have hjl:=(List.getElem?_eq_some_iff.1 h.at1).1
 have hfl : s.funcs.length = j + 1:=by rw [h.funcs,List.length_append,List.length_map,List.length_take,List.length_singleton]; omega
 have hlist : (instrL w).map sb = sb (nameOf k) :: (instrL w).tail.map sb:=by
  have e : instrL w = nameOf k :: (instrL w).tail:=by unfold instrL; simp only; rw [hk1]; rfl
  conv => lhs; rw [e]
  rfl
 obtain ⟨_,n1,n2,n3⟩:=name_plain d.hk
 have i1 : isW (sb (nameOf k)) funcW = false:=beq_eq_false_iff_ne.mpr n1
 have i2 : isW (sb (nameOf k)) tableW = false:=beq_eq_false_iff_ne.mpr n2
 have hroom : St.room { s with now:=((n + 1 : Nat) : Int),cases:=false } ((k : Int) + 1) = { s with now:=((n + 1 : Nat) : Int),cases:=false,opn:=[],ins:=s.ins ++ [[(k : Int) + 1,0,0,0,0]],code:=s.code ++ [0],funcs:=funcsD (l1.take j) ++ [[f.f0,((at_ + 1 : Nat) : Int)]] }:=by
  rw [room_new (s:={ s with now:=((n + 1 : Nat) : Int),cases:=false }) h.idle]
  unfold St.roomed setEnd
  show ({ s with now:=_,cases:=false,opn:=[],ins:=_,code:=_,funcs:=s.funcs.set (s.funcs.length - 1) [(s.funcs.getD (s.funcs.length - 1) []).getD 0 0,((s.ins.length + 1 : Nat) : Int)] } : St) = _
  rw [hil,h.funcs,(set_last _ _ ([] : List Int) []).2,(set_last _ _ _ ([] : List Int)).1]
  rfl
 have e : s.atLine n ((instrL w).map sb) = { s with now:=((n + 1 : Nat) : Int),cases:=false,opn:=[],ins:=s.ins ++ [insO w],code:=s.code ++ [encV (insO w)],funcs:=funcsD (l1.take j) ++ [[f.f0,((at_ + 1 : Nat) : Int)]],uses:=if refB ((k : Int) + 1) then s.uses ++ [([(at_ : Int),((j + 1 : Nat) : Int),((n + 1 : Nat) : Int),(k : Int) + 1],nameU w)] else s.uses }:=by
  rw [hlist,at_cons]
  unfold St.read
  simp only
  rw [i1,i2,if_neg (by simp),if_neg (by simp),h.cases,if_neg (by simp),if_neg (by intro hx; have h3 : Lib.hasSuffix (nameOf k) [58] = true:=hx.2; rw [n3] at h3; cases h3)]
  have hi : St.instr { s with now:=((n + 1 : Nat) : Int),cases:=false } (sb (nameOf k) :: (instrL w).tail.map sb) = (St.room { s with now:=((n + 1 : Nat) : Int),cases:=false } ((k : Int) + 1)).regs s.ins.length ((k : Int) + 1) ((instrL w).tail.map sb):=by
   unfold St.instr
   simp only
   rw [op_in d.hk,if_neg (by simp)]
  rw [hi,hroom,hil,regs_step (s:={ s with now:=((n + 1 : Nat) : Int),cases:=false,opn:=[],ins:=s.ins ++ [[(k : Int) + 1,0,0,0,0]],code:=s.code ++ [0],funcs:=funcsD (l1.take j) ++ [[f.f0,((at_ + 1 : Nat) : Int)]] }) d h.idle at_]
  have hfl2 : (funcsD (l1.take j) ++ [[f.f0,((at_ + 1 : Nat) : Int)]]).length = j + 1:=by rw [List.length_append,List.length_map,List.length_take,List.length_singleton]; omega
  rw [bad0]
  show ({ s with now:=_,cases:=false,opn:=[],ins:=(s.ins ++ [[(k : Int) + 1,0,0,0,0]]).set at_ (insO w),code:=(s.code ++ [0]).set at_ (encV (insO w)),funcs:=_,uses:=if refB ((k : Int) + 1) then s.uses ++ [([(at_ : Int),((funcsD (l1.take j) ++ [[f.f0,((at_ + 1 : Nat) : Int)]]).length : Int),((n + 1 : Nat) : Int),(k : Int) + 1],nameU w)] else s.uses } : St) = _
  rw [set_end _ _ _ _ hil,set_end _ _ _ _ hcl,hfl2]
 rw [e]
 have hb:=h.base
 have htk : l0.take (at_ + 1) = l0.take at_ ++ [w]:=take_succ hw
 refine ⟨⟨?_,?_,hb.tabs,hb.wrong,hb.tm,fun i g q hi hij h1 h2 h3 h4 => ?_,hb.lmN,fun u hu => ?_,fun q x hq hqa hr => ?_⟩,h.at1,rfl,h.fm,rfl,h.idle,fun _ => rfl,(fun hx => by cases hx),fun q hq => ?_,fun i g hi hij => by have:=h.prev i g hi hij; omega⟩
 ·show s.code ++ _ = _
  rw [htk,List.map_append,hb.code]; rfl
 ·show s.ins ++ _ = _
  rw [htk,List.map_append,hb.ins]; rfl
 ·rcases Nat.lt_or_ge q at_ with hqa | hqa
  ·exact hb.lmL i g q hi hij h1 h2 hqa h4
  ·obtain rfl : q = at_:=by omega
   have hie : i = j ∨ i < j:=by omega
   rcases hie with rfl | hlt
   ·exact h.now (by rw [hlab,h4])
   ·exfalso
    have:=h.prev i g hi hlt; omega
 ·have hu' : u ∈ (if refB ((k : Int) + 1) then s.uses ++ [([(at_ : Int),((j + 1 : Nat) : Int),((n + 1 : Nat) : Int),(k : Int) + 1],nameU w)] else s.uses):=hu
  cases hrf : refB ((k : Int) + 1) with
  | false =>
   rw [hrf,if_neg (by simp)] at hu'
   obtain ⟨q,i,ln,x,g,h1,h2,h3,h4⟩:=hb.usesI u hu'
   exact ⟨q,i,ln,x,g,h1,h2,by omega,h4⟩
  | true =>
   rw [hrf,if_pos rfl] at hu'
   rcases List.mem_append.1 hu' with hu' | hu'
   ·obtain ⟨q,i,ln,x,g,h1,h2,h3,h4⟩:=hb.usesI u hu'
    exact ⟨q,i,ln,x,g,h1,h2,by omega,h4⟩
   ·rw [List.mem_singleton] at hu'
    exact ⟨at_,j,_,w,f,by rw [hu',hop],hw,by omega,by rw [hop,hrf],h.at1,hf0,hf1,by omega⟩
 ·show ∃ u ∈ (if refB ((k : Int) + 1) then s.uses ++ [([(at_ : Int),((j + 1 : Nat) : Int),((n + 1 : Nat) : Int),(k : Int) + 1],nameU w)] else s.uses),_
  rcases Nat.lt_or_ge q at_ with hqa2 | hqa2
  ·obtain ⟨u,hu,he⟩:=hb.usesC q x hq hqa2 hr
   refine ⟨u,?_,he⟩
   split
   ·exact List.mem_append_left _ hu
   ·exact hu
  ·obtain rfl : q = at_:=by omega
   obtain rfl:=Option.some.inj (hw.symm.trans hq)
   rw [hop] at hr
   rw [if_pos hr]
   exact ⟨_,List.mem_append_right _ (List.mem_singleton_self _),rfl⟩
 ·exact h.new q (by
   have hq' : at_ + 1 ≤ q:=by simpa using hq
   cases lab <;> simp <;> omega)
theorem run_code {f : S41} {j : Nat} : ∀ (r : List Int) (at_ : Nat) (s : St) (n : Nat),InF l0 l1 l2 tg s j f at_ false → f.f0 ≤ (at_ : Int) → (at_ : Int) + r.length ≤ f.f1 → l0.length < 10000000000 → (∀ (q : Nat) x,r[q]? = some x → l0[at_ + q]? = some x ∧ ∃ (k : Nat) (a b c m : Int),Dec x k a b c m) →
  InF l0 l1 l2 tg (s.run n ((codeWs tg (at_ : Int) r).map (·.map sb))) j f (at_ + r.length) false
 | [],at_,s,n,h,_,_,_,_ => h
 | w :: r,at_,s,n,h,h0,h1,hb,hr => by
  rw [List.length_cons] at h1 ⊢
  obtain ⟨hw,k,a,b,c,m,d⟩:=hr 0 w rfl
  rw [Nat.add_zero] at hw
  have hat:=(List.getElem?_eq_some_iff.1 hw).1
  have hstep : ∀ (s' : St) (n' : Nat),InF l0 l1 l2 tg s' j f at_ (tg (at_ : Int)) → InF l0 l1 l2 tg (s'.run n' ((instrL w :: codeWs tg ((at_ : Int) + 1) r).map (·.map sb))) j f (at_ + (r.length + 1)) false:=by
   intro s' n' h'
   have h2:=read_instr h' rfl h0 (by omega) hw d n'
   rw [List.map_cons,run_cons]
   have h3:=run_code r (at_ + 1) _ (n' + 1) h2 (by omega) (by omega) hb (fun q x hq => by
    have:=hr (q + 1) x (by simpa using hq)
    rw [show at_ + 1 + q = at_ + (q + 1) by omega]
    exact this)
   rw [show at_ + (r.length + 1) = at_ + 1 + r.length by omega]
   exact h3
  rw [codeWs]
  cases ht : tg (at_ : Int) with
  | false =>
   rw [ht] at hstep
   rw [if_neg (by simp),List.nil_append]
   exact hstep s n h
  | true =>
   rw [ht] at hstep
   rw [if_pos rfl,List.singleton_append,List.map_cons,run_cons]
   exact hstep _ _ (read_label h (by omega) (by omega) n)
theorem run_funcs : ∀ (fs : List S41) (j at_ : Nat) (s : St) (n : Nat),l1.drop j = fs → j ≤ l1.length → Pre l0 l1 l2 tg s j at_ → partsFrom l0.length (at_ : Int) fs = true → l0.length < 10000000000 → l1.length < 10000000000 → at_ ≤ l0.length → (∀ x ∈ l0,∃ (k : Nat) (a b c m : Int),Dec x k a b c m) →
  Pre l0 l1 l2 tg (s.run n ((funcsWs tg l0 j fs).map (·.map sb))) l1.length l0.length
 | [],j,at_,s,n,hd,hj,h,hp,_,_,_,_ => by
  rw [partsFrom] at hp
  have hp:=of_decide_eq_true hp
  obtain rfl : at_ = l0.length:=by omega
  have hj2 : l1.length ≤ j:=by
   have:=congrArg List.length hd; rw [List.length_drop,List.length_nil] at this; omega
  obtain rfl : j = l1.length:=by omega
  exact h
 | f :: fs,j,at_,s,n,hd,_,h,hp,h0,h1,hat,hdec => by
  have hjl : j < l1.length:=by
   have:=congrArg List.length hd; rw [List.length_drop,List.length_cons] at this; omega
  have hf : l1[j]? = some f:=by
   have:=congrArg (fun l => l[0]?) hd
   simpa using this
  have hd2 : l1.drop (j + 1) = fs:=by
   have:=congrArg List.tail hd
   simpa using this
  rw [partsFrom] at hp
  simp only [Bool.and_eq_true,decide_eq_true_eq] at hp
  obtain ⟨⟨⟨hp0,hp1⟩,hp2⟩,hp3⟩:=hp
  have h2:=read_func h hf hp0 hat (by omega) n
  have hwl : (wordsOf l0 f).length = (f.f1 - f.f0).toNat:=by unfold wordsOf; rw [List.length_take,List.length_drop]; omega
  rw [funcsWs,funcWs,List.map_append,run_app,List.map_cons,run_cons,hp0]
  have h3:=run_code (wordsOf l0 f) at_ _ (n + 1) h2 (by omega) (by rw [hwl]; omega) h0 (fun q x hq => by
   have hx : l0[at_ + q]? = some x:=by
    unfold wordsOf at hq
    rw [List.getElem?_take] at hq
    split at hq
    ·rw [List.getElem?_drop,hp0] at hq
     simpa using hq
    ·cases hq
   exact ⟨hx,hdec x (List.mem_of_getElem? hx)⟩)
  obtain ⟨e,he⟩ : ∃ e : Nat,f.f1 = (e : Int):=⟨f.f1.toNat,by omega⟩
  have hae : at_ + (wordsOf l0 f).length = e:=by rw [hwl]; omega
  rw [hae] at h3
  rw [he] at hp3
  refine run_funcs fs (j + 1) e _ _ hd2 hjl ⟨h3.base,h3.opn rfl,?_,h3.fm,fun i g hi hij => ?_⟩ hp3 h0 h1 (by omega) hdec
  ·rw [h3.funcs,take_succ hf,funcsD,funcsD,List.map_append,← he]; rfl
  ·rcases Nat.lt_or_ge i j with hlt | hge
   ·have:=h3.prev i g hi hlt; omega
   ·obtain rfl : i = j:=by omega
    obtain rfl:=Option.some.inj (hf.symm.trans hi)
    omega
def UseOK (l0 : List Int) (s : St) (u : List Int × ByteArray) : Prop:=∃ (q : Nat) (fn ln w : Int) (k : Nat) (a b c m : Int),u = ([(q : Int),fn,ln,(k : Int) + 1],nameU w) ∧ l0[q]? = some w ∧ Dec w k a b c m ∧ s.meantU u = some m ∧ m ≤ 65535
theorem named_all : ∀ (us : List (List Int × ByteArray)) (s : St),(∀ u ∈ us,UseOK l0 s u) → (∀ (q : Nat) (w : Int),l0[q]? = some w → s.code[q]? = some w ∨ ∃ u ∈ us,u.1.getD 0 0 = (q : Int)) → s.code.length = l0.length → s.ins.length = l0.length →
  (∀ (q : Nat) (w : Int),l0[q]? = some w → ∃ z,s.ins[q]? = some [dOp w,(decV w).2.1,(decV w).2.2.1,(decV w).2.2.2.1,z]) → s.wrong = 0 →
  (s.namedL us).code = l0 ∧ (s.namedL us).wrong = 0 ∧ (s.namedL us).funcs = s.funcs ∧ (s.namedL us).tabs = s.tabs
 | [],s,_,hc,hl,_,_,hw => by
  refine ⟨?_,hw,rfl,rfl⟩
  show s.code = l0
  apply List.ext_getElem?
  intro q
  cases hq : l0[q]? with
  | none => rw [List.getElem?_eq_none_iff] at hq ⊢; omega
  | some w =>
   rcases hc q w hq with h | ⟨u,hu,_⟩
   ·exact h
   ·cases hu
 | u :: us,s,hu,hc,hl,hil,hi,hw => by
  obtain ⟨q,fn,ln,w,k,a,b,c,m,rfl,hq,d,hm,h65⟩:=hu u List.mem_cons_self
  obtain ⟨z,hz⟩:=hi q w hq
  have hop : dOp w = (k : Int) + 1:=by unfold dOp; rw [d.dec]
  rw [hop,d.dec] at hz
  have hpe:=patch_eq (s:=s) (n:=m) hz
  have hq0 : (([(q : Int),fn,ln,(k : Int) + 1] : List Int).getD 0 0).toNat = q:=Int.toNat_natCast q
  have e : s.namedL (([(q : Int),fn,ln,(k : Int) + 1],nameU w) :: us) = St.namedL { s with ins:=s.ins.set q [(k : Int) + 1,a,b,c,m],code:=s.code.set q w } us:=by
   rw [named_go (by rw [hm]; rfl) (by rw [hm]; show ¬ m > 65535; omega),hm]
   show St.namedL (s.patch (([(q : Int),fn,ln,(k : Int) + 1] : List Int).getD 0 0).toNat m) us = _
   rw [hq0,hpe,d.enc]
  rw [e]
  have hql:=(List.getElem?_eq_some_iff.1 hq).1
  have ih:=named_all us { s with ins:=s.ins.set q [(k : Int) + 1,a,b,c,m],code:=s.code.set q w } (fun u hu2 => by
   obtain ⟨q2,fn2,ln2,w2,k2,a2,b2,c2,m2,h1,h2,h3,h4,h5⟩:=hu u (List.mem_cons_of_mem _ hu2)
   exact ⟨q2,fn2,ln2,w2,k2,a2,b2,c2,m2,h1,h2,h3,h4,h5⟩) (fun q2 w2 hq2 => by
   show (s.code.set q w)[q2]? = _ ∨ _
   by_cases hqq : q = q2
   ·subst hqq
    left
    rw [List.getElem?_set,if_pos rfl,if_pos (by omega)]
    exact hq.symm.trans hq2
   ·rw [List.getElem?_set,if_neg hqq]
    rcases hc q2 w2 hq2 with h | ⟨u2,hu2,he2⟩
    ·exact .inl h
    ·rcases List.mem_cons.1 hu2 with rfl | hu2
     ·exfalso
      have : (q : Int) = (q2 : Int):=he2
      omega
     ·exact .inr ⟨u2,hu2,he2⟩) (by show (s.code.set _ _).length = _; rw [List.length_set]; exact hl) (by show (s.ins.set _ _).length = _; rw [List.length_set]; exact hil) (fun q2 w2 hq2 => by
   show ∃ z,(s.ins.set q _)[q2]? = _
   by_cases hqq : q = q2
   ·subst hqq
    obtain rfl:=Option.some.inj (hq.symm.trans hq2)
    exact ⟨m,by rw [List.getElem?_set,if_pos rfl,if_pos (by omega),hop,d.dec]⟩
   ·rw [List.getElem?_set,if_neg hqq]
    exact hi q2 w2 hq2) hw
  exact ih
theorem parts_cover {l0 : List Int} : ∀ (fs : List S41) (at_ : Int),partsFrom l0.length at_ fs = true → 0 ≤ at_ → ∀ q : Nat,at_ ≤ (q : Int) → q < l0.length → ∀ x,l0[q]? = some x → ∃ f ∈ fs,x ∈ wordsOf l0 f
 | [],at_,h,h0,q,h1,h2,x,hx => by
  rw [partsFrom] at h
  have:=of_decide_eq_true h
  omega
 | f :: fs,at_,h,h0,q,h1,h2,x,hx => by
  rw [partsFrom] at h
  simp only [Bool.and_eq_true,decide_eq_true_eq] at h
  obtain ⟨⟨⟨p0,p1⟩,p2⟩,p3⟩:=h
  by_cases hq : (q : Int) < f.f1
  ·refine ⟨f,List.mem_cons_self,?_⟩
   have : (wordsOf l0 f)[q - f.f0.toNat]? = some x:=by
    unfold wordsOf
    rw [List.getElem?_take,if_pos (by omega),List.getElem?_drop,show f.f0.toNat + (q - f.f0.toNat) = q by omega,hx]
   exact List.mem_of_getElem? this
  ·obtain ⟨g,hg,hm⟩:=parts_cover fs f.f1 p3 (by omega) q (by omega) h2 x hx
   exact ⟨g,List.mem_cons_of_mem _ hg,hm⟩
theorem parts_nonneg {n : Int} : ∀ (fs : List S41) (at_ : Int),partsFrom n at_ fs = true → 0 ≤ at_ → ∀ f ∈ fs,0 ≤ f.f0
 | [],_,_,_,f,hf => by cases hf
 | g :: fs,at_,h,h0,f,hf => by
  rw [partsFrom] at h
  simp only [Bool.and_eq_true,decide_eq_true_eq] at h
  obtain ⟨⟨⟨p0,p1⟩,p2⟩,p3⟩:=h
  rcases List.mem_cons.1 hf with rfl | hf
  ·omega
  ·exact parts_nonneg fs g.f1 p3 (by omega) f hf
theorem parts_count {n : Int} : ∀ (fs : List S41) (at_ : Int),partsFrom n at_ fs = true → at_ + fs.length ≤ n
 | [],at_,h => by
  rw [partsFrom] at h
  have:=of_decide_eq_true h
  simp; omega
 | g :: fs,at_,h => by
  rw [partsFrom] at h
  simp only [Bool.and_eq_true,decide_eq_true_eq] at h
  obtain ⟨⟨⟨p0,p1⟩,p2⟩,p3⟩:=h
  have:=parts_count fs g.f1 p3
  rw [List.length_cons]; omega
theorem parts_le {n : Int} : ∀ (fs : List S41) (at_ : Int),partsFrom n at_ fs = true → ∀ f ∈ fs,f.f1 ≤ n
 | [],_,_,f,hf => by cases hf
 | g :: fs,at_,h,f,hf => by
  rw [partsFrom] at h
  simp only [Bool.and_eq_true,decide_eq_true_eq] at h
  obtain ⟨⟨⟨p0,p1⟩,p2⟩,p3⟩:=h
  rcases List.mem_cons.1 hf with rfl | hf
  ·exact p2
  ·exact parts_le fs g.f1 p3 f hf
theorem scanA_all {nf nt : Nat} {b e : Int} : ∀ (r : List Int) (bad : Int) (tg : Int → Bool) {x : Int × (Int → Bool)},scanA nf nt b e r bad tg = some x → (∀ y,tg y = true → x.2 y = true) ∧ ∀ w ∈ r,dErr w = 0 → fitsV nf nt b e w = true ∧ (prefL (dOp w) = [76] → x.2 (dImm w) = true)
 | [],bad,tg,x,h => by
  rw [scanA] at h
  obtain rfl:=Option.some.inj h
  exact ⟨fun y hy => hy,fun w hw => by cases hw⟩
 | w :: r,bad,tg,x,h => by
  by_cases he : dErr w = 0
  ·by_cases hf : fitsV nf nt b e w = true
   ·rw [scan_fit he hf] at h
    obtain ⟨h1,h2⟩:=scanA_all r _ _ h
    refine ⟨fun y hy => h1 y ?_,fun z hz hz0 => ?_⟩
    ·split
     ·show (decide (y = dImm w) || tg y) = true
      rw [hy,Bool.or_true]
     ·exact hy
    ·rcases List.mem_cons.1 hz with rfl | hz
     ·refine ⟨hf,fun hp => h1 _ ?_⟩
      rw [if_pos hp]
      simp
     ·exact h2 z hz hz0
   ·rw [scan_unfit he (Bool.eq_false_iff.mpr hf)] at h
    cases h
  ·rw [scan_err he] at h
   obtain ⟨h1,h2⟩:=scanA_all r _ _ h
   refine ⟨h1,fun z hz hz0 => ?_⟩
   rcases List.mem_cons.1 hz with rfl | hz
   ·exact absurd hz0 he
   ·exact h2 z hz hz0
theorem scanF_all {l0 : List Int} {nf nt : Nat} : ∀ (r : List S41) (bad : Int) (tg : Int → Bool) {x : Int × (Int → Bool)},scanF l0 nf nt r bad tg = some x → (∀ y,tg y = true → x.2 y = true) ∧ ∀ f ∈ r,∀ w ∈ wordsOf l0 f,dErr w = 0 → fitsV nf nt f.f0 f.f1 w = true ∧ (prefL (dOp w) = [76] → x.2 (dImm w) = true)
 | [],bad,tg,x,h => by
  rw [scanF] at h
  obtain rfl:=Option.some.inj h
  exact ⟨fun y hy => hy,fun f hf => by cases hf⟩
 | f :: r,bad,tg,x,h => by
  rw [scanF] at h
  obtain ⟨y,hy,h2⟩:=Option.bind_eq_some_iff.1 h
  obtain ⟨h3,h4⟩:=scanF_all r _ _ h2
  obtain ⟨h5,h6⟩:=scanA_all _ _ _ hy
  refine ⟨fun z hz => h3 z (h5 z hz),fun g hg w hw he => ?_⟩
  rcases List.mem_cons.1 hg with rfl | hg
  ·obtain ⟨h7,h8⟩:=h6 w hw he
   exact ⟨h7,fun hp => h3 _ (h8 hp)⟩
  ·exact h4 g hg w hw he
theorem parse_print (l0 : List Int) (l1 : List S41) (l2 : List S44) (hw : ∀ x ∈ l0,0 ≤ x ∧ x < 4294967296) (hb0 : l0.length < 10000000000) (hb2 : l2.length < 10000000000) (hok : (prnV l0 l1 l2).2 = 0) :
  (prnV l0 l1 l2).1.length ≤ 262144 ∧ (final07 (sb (prnV l0 l1 l2).1)).wrong = 0 ∧ (final07 (sb (prnV l0 l1 l2).1)).code = l0 ∧ (final07 (sb (prnV l0 l1 l2).1)).funcs = funcsD l1 ∧ (final07 (sb (prnV l0 l1 l2).1)).tabs = tabsD (plainL l2):=by
 have hpt : partsV l0 l1 = true ∧ tabsOk l2 = true:=by
  unfold prnV at hok
  by_cases h : (partsV l0 l1 && tabsOk l2) = false
  ·rw [if_pos h] at hok; cases hok
  ·rw [Bool.not_eq_false,Bool.and_eq_true] at h; exact h
 obtain ⟨hp,ht⟩:=hpt
 rw [prn_scan hp ht] at hok ⊢
 cases hs : scanF l0 l1.length l2.length l1 0 (fun _ => false) with
 | none => rw [hs] at hok; cases hok
 | some x =>
  obtain ⟨bad,tg⟩:=x
  rw [hs] at hok
  dsimp only at hok ⊢
  by_cases hbad : bad = 0
  ·subst hbad
   rw [if_neg (fun h => h rfl)] at hok ⊢
   by_cases hlen : 262144 < (tabsL 0 l2 ++ funcsL tg l0 0 l1).length
   ·rw [if_pos hlen] at hok; cases hok
   ·rw [if_neg hlen]
    dsimp only
    refine ⟨by omega,?_⟩
    have hpf : partsFrom l0.length 0 l1 = true:=by unfold partsV at hp; rw [Bool.and_eq_true] at hp; exact hp.1
    have hb1 : l1.length < 10000000000:=by have:=parts_count l1 0 hpf; omega
    have hz:=(scanF_bad _ _ _ hs rfl).2
    have hall:=(scanF_all _ _ _ hs).2
    have hdec : ∀ x ∈ l0,∃ (k : Nat) (a b c m : Int),Dec x k a b c m:=fun x hx => by
     obtain ⟨q,hq⟩:=List.mem_iff_getElem?.1 hx
     obtain ⟨f,hf,hxf⟩:=parts_cover l1 0 hpf (Int.le_refl _) q (by omega) (List.getElem?_eq_some_iff.1 hq).1 x hq
     exact dec_of (hw x hx).1 (hw x hx).2 (hz f hf x hxf)
    have htext : tabsL 0 l2 ++ funcsL tg l0 0 l1 = textOf (tabsWs 0 l2 ++ funcsWs tg l0 0 l1):=by rw [text_app,text_tabs,text_funcs]
    have hlines : lines07 (sb (tabsL 0 l2 ++ funcsL tg l0 0 l1)) = (tabsWs 0 l2).map (·.map sb) ++ ((funcsWs tg l0 0 l1).map (·.map sb) ++ [[]]):=by
     rw [htext,text_lines _ (fun ws hws => ?_),List.map_append,List.append_assoc]
     rcases List.mem_append.1 hws with h | h
     ·exact tabs_good l2 0 ws h
     ·refine funcs_good tg l0 l1 0 (fun f hf w hwf => ?_) ws h
      have hwl : w ∈ l0:=by unfold wordsOf at hwf; exact List.mem_of_mem_drop (List.mem_of_mem_take hwf)
      obtain ⟨k,a,b,c,m,d⟩:=hdec w hwl
      have hop : dOp w = (k : Int) + 1:=by unfold dOp; rw [d.dec]
      have:=d.hk
      rw [hop]; omega
    unfold final07
    rw [hlines,run_app,run_app]
    have h1:=run_tabs l2 [] st0 0 start_in ht (by simpa using hb2)
    rw [List.nil_append] at h1
    generalize st0.run 0 ((tabsWs 0 l2).map (·.map sb)) = s1 at *
    have h2 : Pre l0 l1 l2 tg s1 0 0:=by
     refine ⟨⟨?_,?_,h1.tabs,h1.wrong,by have:=h1.tm; rwa [List.length_map] at this,(fun i f m _ hi => absurd hi (Nat.not_lt_zero _)),(fun fn y _ => h1.lm _),(fun u hu => ?_),(fun q w _ hq => absurd hq (Nat.not_lt_zero _))⟩,h1.opn,?_,⟨fun i hi => absurd hi (Nat.not_lt_zero _),fun i _ => h1.fm _⟩,(fun i g _ hi => absurd hi (Nat.not_lt_zero _))⟩
     ·rw [h1.code]; rfl
     ·rw [h1.ins]; rfl
     ·rw [h1.uses] at hu; cases hu
     ·rw [h1.funcs]; rfl
    have h3:=run_funcs l1 0 0 s1 (0 + ((tabsWs 0 l2).map (·.map sb)).length) rfl (Nat.zero_le _) h2 hpf hb0 hb1 (Nat.zero_le _) hdec
    generalize s1.run (0 + ((tabsWs 0 l2).map (·.map sb)).length) ((funcsWs tg l0 0 l1).map (·.map sb)) = s2 at *
    generalize 0 + ((tabsWs 0 l2).map (·.map sb)).length + ((funcsWs tg l0 0 l1).map (·.map sb)).length = n3
    have e3 : s2.run n3 [[]] = { s2 with now:=((n3 + 1 : Nat) : Int) }:=rfl
    rw [e3]
    have hc : St.closed { s2 with now:=((n3 + 1 : Nat) : Int) } = { s2 with now:=((n3 + 1 : Nat) : Int) }:=closed_nil h3.opn
    unfold St.done
    rw [hc,if_pos h3.base.wrong]
    have hb:=h3.base
    have htk : l0.take l0.length = l0:=List.take_length
    have h4:=named_all (l0:=l0) s2.uses { s2 with now:=((n3 + 1 : Nat) : Int) } (fun u hu => by
     obtain ⟨q,i,ln,w,f,hu1,hq,_,hr,hf,hq0,hq1,_⟩:=hb.usesI u hu
     obtain ⟨k,a,b,c,m,d⟩:=hdec w (List.mem_of_getElem? hq)
     have hop : dOp w = (k : Int) + 1:=by unfold dOp; rw [d.dec]
     have him : dImm w = m:=by unfold dImm; rw [d.dec]
     have her : dErr w = 0:=by unfold dErr; rw [d.dec]
     have hwf : w ∈ wordsOf l0 f:=by
      have : (wordsOf l0 f)[q - f.f0.toNat]? = some w:=by
       unfold wordsOf
       have hnn : 0 ≤ f.f0:=parts_nonneg l1 0 hpf (Int.le_refl _) f (List.mem_of_getElem? hf)
       rw [List.getElem?_take,if_pos (by omega),List.getElem?_drop,show f.f0.toNat + (q - f.f0.toNat) = q by omega,hq]
      exact List.mem_of_getElem? this
     obtain ⟨hfit,htg⟩:=hall f (List.mem_of_getElem? hf) w hwf her
     rw [hop] at hr
     have hm0 : 0 ≤ m ∧ m ≤ 65535:=by
      have hi:=ref_imm d.hk hr
      have h6 : (Hfind.rowAt k).2.1 ≠ 6:=by
       have:=List.all_eq_true.1 ref_s6 k (List.mem_range.2 d.hk)
       rw [hr] at this
       simpa using this
      have h7:=(take_regs d).2.2.2.2 hi
      unfold outOf at h7
      rw [if_neg h6] at h7
      simp at h7
      omega
     obtain ⟨mu,hmu⟩ : ∃ mu : Nat,m = (mu : Int):=⟨m.toNat,by omega⟩
     have hnu : nameU w = sb (prefL ((k : Int) + 1) ++ itoa (mu : Int)):=by unfold nameU; rw [hop,him,hmu]
     refine ⟨q,((i + 1 : Nat) : Int),ln,w,k,a,b,c,m,by rw [hu1,hop],hq,d,?_,hm0.2⟩
     rw [hu1,hop,hnu]
     unfold fitsV at hfit
     rw [hop,him,hmu] at hfit
     rw [hop,him,hmu] at htg
     rw [hmu]
     unfold refB at hr
     simp at hr
     by_cases c1 : (k : Int) + 1 = 20 ∨ (k : Int) + 1 = 22
     ·have hpl : prefL ((k : Int) + 1) = [102]:=by unfold prefL; rw [if_neg (by omega),if_pos c1]
      rw [hpl,if_neg (by simp),if_pos rfl] at hfit
      have hlt:=of_decide_eq_true hfit
      rw [meantU_fn c1,hpl]
      exact h3.fm.1 mu (by omega)
     ·by_cases c2 : (k : Int) + 1 = 34
      ·have hpl : prefL ((k : Int) + 1) = [116]:=by unfold prefL; rw [if_neg (by omega),if_neg c1,if_pos c2]
       rw [hpl,if_neg (by simp),if_neg (by simp),if_pos rfl] at hfit
       have hlt:=of_decide_eq_true hfit
       rw [meantU_tab c2,hpl]
       exact hb.tm.1 mu (by omega)
      ·have hpl : prefL ((k : Int) + 1) = [76]:=by unfold prefL; rw [if_pos (by omega)]
       rw [hpl,if_pos rfl,Bool.and_eq_true] at hfit
       have h8:=of_decide_eq_true hfit.1
       have h9:=of_decide_eq_true hfit.2
       rw [meantU_lab ⟨by omega,by omega,c2⟩,hpl]
       have hfl:=parts_le l1 0 hpf f (List.mem_of_getElem? hf)
       exact hb.lmL i f mu hf (List.getElem?_eq_some_iff.1 hf).1 h8 h9 (by omega) (htg hpl)) (fun q w hq => by
     have hql:=(List.getElem?_eq_some_iff.1 hq).1
     cases hr : refB (dOp w) with
     | true => exact .inr (hb.usesC q w hq hql hr)
     | false =>
      left
      obtain ⟨k,a,b,c,m,d⟩:=hdec w (List.mem_of_getElem? hq)
      show s2.code[q]? = _
      rw [hb.code,htk,List.getElem?_map,hq]
      have hop : dOp w = (k : Int) + 1:=by unfold dOp; rw [d.dec]
      have him : dImm w = m:=by unfold dImm; rw [d.dec]
      have : insO w = [(k : Int) + 1,a,b,c,m]:=by unfold insO; rw [hr,hop,him,d.dec]; rfl
      show some (encV (insO w)) = _
      rw [this,d.enc]) (by show s2.code.length = _; rw [hb.code,htk,List.length_map]) (by show s2.ins.length = _; rw [hb.ins,htk,List.length_map]) (fun q w hq => ⟨_,by show s2.ins[q]? = _; rw [hb.ins,htk,List.getElem?_map,hq]; rfl⟩) hb.wrong
    obtain ⟨r1,r2,r3,r4⟩:=h4
    refine ⟨r2,r1,?_,?_⟩
    ·rw [r3]
     show s2.funcs = _
     rw [h3.funcs,List.take_length]
    ·rw [r4]
     exact hb.tabs
  ·rw [if_pos hbad] at hok; exact absurd hok hbad
end
end Go.Proofs.YtdbpglhdicmhhaaGreatDoor.Q
end
