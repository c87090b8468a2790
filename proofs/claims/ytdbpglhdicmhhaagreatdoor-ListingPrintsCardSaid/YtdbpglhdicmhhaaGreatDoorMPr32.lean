import Derived.Test.YtdbpglhdicmhhaaGreatDoorMPr31
import Derived.Lib.FieldsP
import Derived.Shelf.GgClosure.Gives
import Derived.OwnWalk
set_option linter.unusedVariables false
set_option linter.unusedSimpArgs false
section
namespace Go.Proofs.YtdbpglhdicmhhaaGreatDoor.qp
open Go.RowKit Go.Shelf iM
open Go.Proofs.YtdbpglhdicmhhaaGreatDoor.GA
def Oq (n : Nat) (u : List Int × ByteArray) : Prop:=∃ (q : Nat) (fn ln op : Int) (nm : ByteArray),u = ([(q : Int),fn,ln,op],nm) ∧ q < n ∧ nm.size ≤ 262144 ∧ (Lit.int .i64 fn).wf = true
structure Good (s : St) : Prop where
 code : s.code.length = s.ins.length
 idle : s.idle = false → s.funcs ≠ []
 tabs : s.cases = true → s.tabs ≠ []
 uses : s.wrong = 0 → ∀ u ∈ s.uses,Oq s.ins.length u
theorem Oq.mono {n m : Nat} {u : List Int × ByteArray} (h : Oq n u) (hm : n ≤ m) : Oq m u:=by
 obtain ⟨q,fn,ln,op,nm,h1,h2,h3⟩:=h
 exact ⟨q,fn,ln,op,nm,h1,Nat.lt_of_lt_of_le h2 hm,h3⟩
theorem FP {w l e n : Int} (h : (DN w l e n).1 = 0) : w = 0 ∧ e = 0:=by
 unfold DN FN at h
 split at h
 ·rename_i hb
  have he : e = 0:=h
  rw [he] at hb
  simp at hb
 ·rename_i hb
  have hw : w = 0:=h
  refine ⟨hw,?_⟩
  rw [hw] at hb
  by_cases he : e = 0
  ·exact he
  ·exact absurd (by simp [bne_iff_ne.mpr he]) hb
theorem uM : ∀ (l : List Int) (p : Int × Int),(vP p l).1 = 0 → p.1 = 0
 | [],p,h => h
 | x :: r,p,h => by
  rw [Gs] at h
  exact (FP (uM r _ h)).1
theorem Good.bad {s : St} (h : Good s) (e ln : Int) : Good (s.bad e ln) :=
 ⟨h.code,h.idle,h.tabs,fun hw => h.uses (FP hw).1⟩
theorem Good.bad' {s : St} (h1 : s.code.length = s.ins.length) (h2 : s.idle = false → s.funcs ≠ []) (h3 : s.cases = true → s.tabs ≠ []) {e ln : Int} (he : e ≠ 0) : Good (s.bad e ln) :=
 ⟨h1,h2,h3,fun hw => absurd (FP hw).2 he⟩
theorem Good.closed {s : St} (h : Good s) : Good s.closed:=⟨h.code,h.idle,h.tabs,fun hw => h.uses (uM _ _ hw)⟩
theorem Good.like {s s' : St} (h : Good s) (h1 : s'.code = s.code:=by rfl) (h2 : s'.ins = s.ins:=by rfl) (h3 : s'.idle = s.idle:=by rfl) (h4 : s'.funcs = s.funcs:=by rfl) (h5 : s'.cases = s.cases:=by rfl) (h6 : s'.tabs = s.tabs:=by rfl) (h7 : s'.wrong = s.wrong:=by rfl) (h8 : s'.uses = s.uses:=by rfl) : Good s' :=
 ⟨by rw [h1,h2]; exact h.code,by rw [h3,h4]; exact h.idle,by rw [h5,h6]; exact h.tabs,by rw [h7,h8,h2]; exact h.uses⟩
theorem Good.fn0 {s : St} (h : Good s) : Good s.fn0:=⟨h.code,fun _ => by show s.funcs ++ _ ≠ []; simp,h.tabs,fun hw => h.uses (uM _ _ hw)⟩
theorem Good.fn {s : St} (h : Good s) (ws : List ByteArray) : Good (s.fn ws):=by
 unfold St.fn
 repeat' split
 all_goals first | exact h.fn0.bad _ _ | exact h.fn0.like
theorem Good.qO {s : St} (h : Good s) (n : Nat) : Good (s.qO n):=⟨h.code,fun hi => (by cases hi),fun _ => by show s.tabs ++ _ ≠ []; simp,fun hw => h.uses (uM _ _ hw)⟩
theorem Good.table {s : St} (h : Good s) (ws : List ByteArray) : Good (s.table ws):=by
 unfold St.table
 repeat' split
 all_goals first | exact (h.qO _).bad _ _ | exact (h.qO _).like
theorem Good.pick {s : St} (h : Good s) (b : Bool) (r : List ByteArray) : Good (s.pick b r).1:=by
 unfold St.pick
 repeat' split
 all_goals first
  | exact h
  | exact ⟨h.code,h.idle,fun hc => by
    have:=h.tabs hc
    show s.tabs.set _ _ ≠ []
    intro e
    exact this (by have:=congrArg List.length e; rw [List.length_set] at this; exact List.length_eq_zero_iff.1 this),h.uses⟩
theorem Good.BH {s : St} (h : Good s) : Good s.BH:=h.like
theorem Good.mark {s : St} (h : Good s) (b : ByteArray) : Good (s.mark b).1:=by
 unfold St.mark
 repeat' split
 all_goals first | exact h | exact h.BH | exact h.BH.like
structure Fit (s : St) : Prop where
 code : s.code.length = s.ins.length
 idle : s.idle = false → s.funcs ≠ []
 tabs : s.cases = true → s.tabs ≠ []
theorem Good.fit {s : St} (h : Good s) : Fit s:=⟨h.code,h.idle,h.tabs⟩
theorem Fit.bad {s : St} (h : Fit s) {e ln : Int} (he : e ≠ 0) : Good (s.bad e ln):=Good.bad' h.code h.idle h.tabs he
theorem IY {s : St} (hf : Fit s) (hg : s.idle = false → Good s) (q : Nat) (e : Int) (i : List Int) (ln : Int) : Good ((s.fin q e i).1.bad (s.fin q e i).2 ln):=by
 unfold St.fin
 split
 ·rename_i he
  exact hf.bad he
 ·split
  ·exact hf.bad (show (74 : Int) ≠ 0 by decide)
  ·rename_i hi
   have h:=hg (by simpa using hi)
   refine Good.bad (s:={ s with ins:=s.ins.set q i,code:=s.code.set q (rM i) }) ⟨?_,h.idle,h.tabs,?_⟩ _ _
   ·show (s.code.set _ _).length = (s.ins.set _ _).length
    rw [List.length_set,List.length_set]; exact h.code
   ·intro hw
    show ∀ u ∈ s.uses,Oq (s.ins.set _ _).length u
    rw [List.length_set]; exact h.uses hw
theorem WW {s : St} (hf : Fit s) (hg : s.idle = false → Good s) (q : Nat) (hq : s.idle = false → q < s.ins.length) (op e : Int) (abc : List Int) (r : List ByteArray) (hr : ∀ p ∈ r,p.size ≤ 262144) (hfn : s.funcs.length ≤ 262144) (ln : Int) : Good ((s.jC q op e abc r).1.bad (s.jC q op e abc r).2 ln):=by
 unfold St.jC
 split
 ·exact IY hf hg _ _ _ _
 ·dsimp only
  split
  ·refine IY (s:={ s with uses:=s.uses ++ [([(q : Int),(s.funcs.length : Int),s.now,op],r.getD (bW (bn op)).1.toNat ByteArray.empty)] }) ⟨hf.code,hf.idle,hf.tabs⟩ (fun hi => ?_) _ _ _ _
   have h:=hg hi
   refine ⟨h.code,h.idle,h.tabs,fun hw u hu => ?_⟩
   rcases List.mem_append.1 hu with hu | hu
   ·exact h.uses hw u hu
   ·rw [List.mem_singleton] at hu
    refine ⟨q,_,_,_,_,hu,hq hi,?_,wf64 hfn⟩
    rw [List.getD_eq_getElem?_getD]
    cases hx : r[(bW (bn op)).1.toNat]? with
    | none => exact Nat.zero_le _
    | some p => exact hr p (List.mem_of_getElem? hx)
  ·split
   ·exact hf.bad (show (70 : Int) ≠ 0 by decide)
   ·exact IY hf hg _ _ _ _
theorem KF {s : St} (hf : Fit s) (hg : s.idle = false → Good s) (q : Nat) (hq : s.idle = false → q < s.ins.length) (op : Int) (r : List ByteArray) (hr : ∀ p ∈ r,p.size ≤ 262144) (hfn : s.funcs.length ≤ 262144) (ln : Int) : Good ((s.regs q op r).1.bad (s.regs q op r).2 ln):=by
 unfold St.regs
 dsimp only
 by_cases h1 : (r.length : Int) ≠ (bW (bn op)).1 + (if (bW (bn op)).2 then 1 else 0)
 ·rw [if_pos h1]; exact hf.bad (show (70 : Int) ≠ 0 by decide)
 ·rw [if_neg h1]
  by_cases h2 : (Q.fD [] 0 (bl (r.take (bW (bn op)).1.toNat))).2 = 70
  ·rw [if_pos h2]; exact hf.bad (show (70 : Int) ≠ 0 by decide)
  ·rw [if_neg h2]; exact WW hf hg q hq _ _ _ r hr hfn ln
theorem Jy (fs : List (List Int)) (e : Int) : (Az fs e).length = fs.length:=by unfold Az; rw [List.length_set]
theorem Good.instr {s : St} (h : Good s) (ws : List ByteArray) (hr : ∀ p ∈ ws,p.size ≤ 262144) (hfn : s.funcs.length ≤ 262144) (ln : Int) : Good ((s.instr ws).1.bad (s.instr ws).2 ln):=by
 unfold St.instr
 cases ws with
 | nil => exact h.bad _ _
 | cons w rest =>
  dsimp only
  split
  ·exact h.bad _ _
  ·cases hid : s.idle with
   | true =>
    rw [KG hid]
    exact KF h.fit (fun _ => h) _ (fun hi => by rw [hid] at hi; cases hi) _ _ (fun p hp => hr p (List.mem_cons_of_mem _ hp)) hfn _
   | false =>
    rw [Jv hid]
    have hG : Good (s.Ce (JH w).1):=by
     refine ⟨?_,fun hi => ?_,h.tabs,fun hw u hu => (h.uses hw u hu).mono (by show s.ins.length ≤ (s.ins ++ _).length; simp)⟩
     ·show (s.code ++ _).length = (s.ins ++ _).length
      rw [List.length_append,List.length_append,h.code]; rfl
     ·show Az _ _ ≠ []
      intro e
      have:=congrArg List.length e
      rw [Jy] at this
      exact h.idle hid (List.length_eq_zero_iff.1 this)
    exact KF hG.fit (fun _ => hG) _ (fun _ => by show s.ins.length < (s.ins ++ _).length; simp) _ _ (fun p hp => hr p (List.mem_cons_of_mem _ hp)) (by show (Az _ _).length ≤ _; rw [Jy]; exact hfn) _
theorem Good.read {s : St} (h : Good s) (ws : List ByteArray) (hr : ∀ p ∈ ws,p.size ≤ 262144) (hfn : s.funcs.length ≤ 262144) : Good (s.read ws):=by
 have h0 : Good { s with cases:=false }:=⟨h.code,h.idle,(fun hc => by cases hc),h.uses⟩
 unfold St.read
 cases ws with
 | nil => exact h
 | cons w r =>
  dsimp only
  split
  ·exact h0.fn _
  ·split
   ·
    have hT : Good (St.table { s with cases:=true } (w :: r)):=by
     have t0 : ∀ n,Good (St.qO { s with cases:=true } n):=fun n => ⟨h.code,fun hi => (by cases hi),fun _ => by show s.tabs ++ _ ≠ []; simp,fun hw => h.uses (uM _ _ hw)⟩
     unfold St.table
     repeat' split
     all_goals first | exact (t0 _).bad _ _ | exact (t0 _).like
    exact hT
   ·split
    ·exact (h.pick _ _).bad _ _
    ·split
     ·exact (h0.mark _).bad _ _
     ·exact h0.instr _ hr hfn _
theorem Good.fine {s : St} (h : Good s) : Fine s:=⟨⟨h.code,h.idle⟩,h.tabs⟩
theorem Good.adA {s : St} (h : Good s) (hw : s.wrong = 0) : FM s:=⟨h.code,h.uses hw⟩
end Go.Proofs.YtdbpglhdicmhhaaGreatDoor.qp
end

section
namespace Go.Proofs.YtdbpglhdicmhhaaGreatDoor.Fld
open Go.Lib
def Vj (q : UInt8 → Bool) (cur : List UInt8) : List UInt8 → List (List UInt8)
 | [] => if cur = [] then [] else [cur]
 | b :: r => if q b then (if cur = [] then Vj q [] r else cur :: Vj q [] r) else Vj q (cur ++ [b]) r
def Qn (q : UInt8 → Bool) : Nat → Option Nat → List (Nat × Nat) → List UInt8 → List (Nat × Nat) × Option Nat
 | _,st,acc,[] => (acc,st)
 | pos,st,acc,b :: r => if q b then Qn q (pos + 1) none (st.elim acc (fun a => acc ++ [(a,pos)])) r
  else Qn q (pos + 1) (some (st.getD pos)) acc r
theorem TV (q : UInt8 → Bool) : ∀ (w : List UInt8) (pos : Nat) (st : Option Nat) (acc : List (Nat × Nat)) (r : List UInt8),w ≠ [] → (∀ b ∈ w,q b = false) → Qn q pos st acc (w ++ r) = Qn q (pos + w.length) (some (st.getD pos)) acc r
 | [],_,_,_,_,h,_ => absurd rfl h
 | [b],pos,st,acc,r,_,h => by
  have hb:=h b (by simp)
  show Qn q pos st acc (b :: r) = _
  rw [Qn,hb]; simp
 | b :: c :: w,pos,st,acc,r,_,h => by
  have hb:=h b (by simp)
  show Qn q pos st acc (b :: ((c :: w) ++ r)) = _
  rw [Qn,hb]
  simp only [Bool.false_eq_true,if_false]
  rw [TV q (c :: w) (pos + 1) _ acc r (by simp) (fun x hx => h x (List.mem_cons_of_mem _ hx))]
  simp only [List.length_cons,Option.getD_some]
  congr 1
  omega
theorem get_at (s : ByteArray) (i : Nat) (h : i < s.size) : (s.get! i) = s.data.toList[i]'(by rw [Array.length_toList]; exact h):=by
 rw [Array.getElem_toList]
 unfold ByteArray.get!
 exact getElem!_pos s.data i h
theorem high (n : Nat) (h : n / 64 = 2) (h2 : n < 256) : 128 ≤ n:=by omega
theorem Lh (s : ByteArray) (i : Nat) (hi : i < s.size) :
  ((s.get! i).toNat < 128 ∧ Utf8.decode s i = ((s.get! i).toNat,1)) ∨
  (128 ≤ (Utf8.decode s i).1 ∧ 1 ≤ (Utf8.decode s i).2 ∧ ∀ k,k < (Utf8.decode s i).2 → i + k < s.size ∧ 128 ≤ (s.get! (i + k)).toNat):=by
 by_cases h0 : (s.get! i).toNat < 128
 ·left
  refine ⟨h0,?_⟩
  unfold Utf8.decode
  simp only [Nat.add_zero,h0,if_true]
 ·right
  have key : ∀ (c w : Nat),Utf8.decode s i = (c,w) → 128 ≤ c ∧ 1 ≤ w ∧ ∀ k,k < w → i + k < s.size ∧ 128 ≤ (s.get! (i + k)).toNat:=by
   intro c w hd
   unfold Utf8.decode at hd
   simp only [Nat.add_zero,h0,if_false,Utf8.runeError] at hd
   have one : ∀ k,k < 1 → i + k < s.size ∧ 128 ≤ (s.get! (i + k)).toNat:=fun k hk => by
    obtain rfl : k = 0:=by omega
    exact ⟨hi,by rw [Nat.add_zero]; omega⟩
   have bnd : ∀ k,(s.get! (i + k)).toNat < 256:=fun k => UInt8.toNat_lt _
   have cont : ∀ k,(decide (i + k < s.size) && ((s.get! (i + k)).toNat / 64 == 2)) = true → i + k < s.size ∧ 128 ≤ (s.get! (i + k)).toNat:=fun k hk => by
    simp only [Bool.and_eq_true,decide_eq_true_eq,beq_iff_eq] at hk
    exact ⟨hk.1,high _ hk.2 (bnd k)⟩
   split at hd
   ·rename_i h1
    simp only [Bool.and_eq_true] at h1
    have c1:=cont 1 (by simp only [Bool.and_eq_true]; exact h1.2)
    split at hd
    ·rename_i h2
     injection hd with e1 e2; subst e1; subst e2
     refine ⟨h2,by omega,fun k hk => ?_⟩
     rcases (by omega : k = 0 ∨ k = 1) with rfl | rfl
     ·exact one 0 (by omega)
     ·exact c1
    ·injection hd with e1 e2; subst e1; subst e2
     exact ⟨by omega,by omega,one⟩
   ·split at hd
    ·rename_i h1
     simp only [Bool.and_eq_true] at h1
     have c1:=cont 1 (by simp only [Bool.and_eq_true]; exact h1.1.2)
     have c2:=cont 2 (by simp only [Bool.and_eq_true]; exact h1.2)
     split at hd
     ·rename_i h2
      simp only [Bool.and_eq_true,decide_eq_true_eq] at h2
      injection hd with e1 e2; subst e1; subst e2
      refine ⟨by omega,by omega,fun k hk => ?_⟩
      rcases (by omega : k = 0 ∨ k = 1 ∨ k = 2) with rfl | rfl | rfl
      ·exact one 0 (by omega)
      ·exact c1
      ·exact c2
     ·injection hd with e1 e2; subst e1; subst e2
      exact ⟨by omega,by omega,one⟩
    ·split at hd
     ·rename_i h1
      simp only [Bool.and_eq_true] at h1
      have c1:=cont 1 (by simp only [Bool.and_eq_true]; exact h1.1.1.2)
      have c2:=cont 2 (by simp only [Bool.and_eq_true]; exact h1.1.2)
      have c3:=cont 3 (by simp only [Bool.and_eq_true]; exact h1.2)
      split at hd
      ·rename_i h2
       simp only [Bool.and_eq_true,decide_eq_true_eq] at h2
       injection hd with e1 e2; subst e1; subst e2
       refine ⟨by omega,by omega,fun k hk => ?_⟩
       rcases (by omega : k = 0 ∨ k = 1 ∨ k = 2 ∨ k = 3) with rfl | rfl | rfl | rfl
       ·exact one 0 (by omega)
       ·exact c1
       ·exact c2
       ·exact c3
      ·injection hd with e1 e2; subst e1; subst e2
       exact ⟨by omega,by omega,one⟩
     ·injection hd with e1 e2; subst e1; subst e2
      exact ⟨by omega,by omega,one⟩
  exact key _ _ rfl
theorem rY (p : Nat → Bool) (hp : ∀ x,p x = true → x < 128) (s : ByteArray) : ∀ (f pos : Nat) (st : Option Nat) (acc : List (Nat × Nat)),s.size ≤ pos + f → pos ≤ s.size →
  spansFromP p s f pos st acc = Qn (fun b => p b.toNat) pos st acc (s.data.toList.drop pos)
 | 0,pos,st,acc,h,hle => by
  rw [List.drop_eq_nil_of_le (by rw [Array.length_toList]; show s.size ≤ pos; omega)]; rfl
 | f + 1,pos,st,acc,h,hle => by
  unfold spansFromP
  by_cases hpos : pos < s.size
  ·rw [if_pos hpos]
   have hl : pos < s.data.toList.length:=by rw [Array.length_toList]; exact hpos
   rcases Lh s pos hpos with ⟨h0,hd⟩ | ⟨hc,hw,hb⟩
   ·rw [hd,List.drop_eq_getElem_cons hl,Qn,get_at s pos hpos]
    simp only
    cases hq : p (s.data.toList[pos]).toNat
    ·simp only [Bool.false_eq_true,if_false]
     cases st with
     | none => exact rY p hp s f (pos + 1) _ acc (by omega) (by omega)
     | some a => exact rY p hp s f (pos + 1) _ acc (by omega) (by omega)
    ·simp only [if_true]
     cases st with
     | none => exact rY p hp s f (pos + 1) _ _ (by omega) (by omega)
     | some a => exact rY p hp s f (pos + 1) _ _ (by omega) (by omega)
   ·have hpf : p (Utf8.decode s pos).1 = false:=by
     cases hq : p (Utf8.decode s pos).1
     ·rfl
     ·have:=hp _ hq; omega
    rw [hpf]
    generalize hwd : (Utf8.decode s pos).2 = w at *
    have hlast:=(hb (w - 1) (by omega)).1
    have hsplit : s.data.toList.drop pos = (s.data.toList.drop pos).take w ++ s.data.toList.drop (pos + w):=by
     rw [← List.drop_drop]; exact (List.take_append_drop w _).symm
    have hlen : ((s.data.toList.drop pos).take w).length = w:=by
     rw [List.length_take,List.length_drop,Array.length_toList]
     have : s.data.size = s.size:=rfl
     omega
    have hall : ∀ b ∈ (s.data.toList.drop pos).take w,(fun b : UInt8 => p b.toNat) b = false:=by
     intro b hbm
     obtain ⟨k,hk,rfl⟩:=List.getElem_of_mem hbm
     rw [hlen] at hk
     have h1:=(hb k hk)
     rw [List.getElem_take,List.getElem_drop]
     have h2:=get_at s (pos + k) h1.1
     cases hq : p (s.data.toList[pos + k]'(by rw [Array.length_toList]; exact h1.1)).toNat
     ·exact hq
     ·have h3:=hp _ hq
      rw [← h2] at h3
      omega
    rw [hsplit,TV _ _ pos st acc _ (by intro e; rw [e] at hlen; simp at hlen; omega) hall,hlen]
    simp only [Bool.false_eq_true,if_false]
    cases st with
    | none => exact rY p hp s f (pos + w) _ acc (by omega) (by omega)
    | some a => exact rY p hp s f (pos + w) _ acc (by omega) (by omega)
  ·rw [if_neg hpos,List.drop_eq_nil_of_le (by rw [Array.length_toList]; show s.size ≤ pos; omega)]; rfl
def opn (l : List UInt8) (st : Option Nat) (pos : Nat) : List UInt8:=match st with | some a => (l.drop a).take (pos - a) | none => []
theorem pieces_bytes (q : UInt8 → Bool) (l : List UInt8) : ∀ (r : List UInt8) (pos : Nat) (st : Option Nat) (acc : List (Nat × Nat)),l.drop pos = r → pos ≤ l.length → (∀ a,st = some a → a < pos) →
  ((Qn q pos st acc r).2.elim (Qn q pos st acc r).1 (fun a => (Qn q pos st acc r).1 ++ [(a,l.length)])).map (fun x : Nat × Nat => (l.drop x.1).take (x.2 - x.1)) = acc.map (fun x : Nat × Nat => (l.drop x.1).take (x.2 - x.1)) ++ Vj q (opn l st pos) r
 | [],pos,st,acc,h,hle,hst => by
  have hp : pos = l.length:=by
   have:=List.drop_eq_nil_iff.1 h
   omega
  subst hp
  rw [Qn]
  cases st with
  | none => simp only [Option.elim,opn,Vj,if_true,List.append_nil]
  | some a =>
   have ha:=hst a rfl
   have hne : (l.drop a).take (l.length - a) ≠ []:=by
    intro e
    have:=congrArg List.length e
    simp at this; omega
   simp only [Option.elim,opn,List.map_append,List.map_cons,List.map_nil]
   rw [Vj,if_neg hne]
 | b :: r,pos,st,acc,h,hle,hst => by
  have hlt : pos < l.length:=by
   rcases Nat.lt_or_ge pos l.length with h1 | h1
   ·exact h1
   ·rw [List.drop_eq_nil_of_le h1] at h; cases h
  have hb : l[pos]? = some b:=by
   have:=congrArg List.head? h
   rw [List.head?_drop] at this; exact this
  have hr : l.drop (pos + 1) = r:=by
   have:=congrArg List.tail h
   rwa [List.tail_drop] at this
  have grow : ∀ a,a < pos → (l.drop a).take (pos + 1 - a) = (l.drop a).take (pos - a) ++ [b]:=fun a ha => by
   rw [show pos + 1 - a = (pos - a) + 1 by omega,List.take_add_one,List.getElem?_drop,show a + (pos - a) = pos by omega,hb]; rfl
  rw [Qn,Vj]
  cases hq : q b
  ·simp only [Bool.false_eq_true,if_false]
   have ho : opn l (some (st.getD pos)) (pos + 1) = opn l st pos ++ [b]:=by
    cases st with
    | none =>
     show (l.drop pos).take (pos + 1 - pos) = [] ++ [b]
     rw [h,show pos + 1 - pos = 1 by omega]; rfl
    | some a => exact grow a (hst a rfl)
   rw [pieces_bytes q l r (pos + 1) _ acc hr (by omega) (fun a ha => by
    cases st with
    | none => injection ha with ha; subst ha; simp
    | some c => injection ha with ha; subst ha; have:=hst c rfl; simp; omega),ho]
  ·simp only [if_true]
   cases st with
   | none =>
    have e : opn l none pos = []:=rfl
    rw [e,if_pos rfl]
    exact pieces_bytes q l r (pos + 1) none acc hr (by omega) (fun a ha => by cases ha)
   | some a =>
    have ha:=hst a rfl
    have hne : opn l (some a) pos ≠ []:=by
     intro e
     have:=congrArg List.length e
     simp [opn] at this; omega
    rw [if_neg hne]
    have:=pieces_bytes q l r (pos + 1) none (acc ++ [(a,pos)]) hr (by omega) (fun a ha => by cases ha)
    have e : (some a).elim acc (fun a => acc ++ [(a,pos)]) = acc ++ [(a,pos)]:=rfl
    have e2 : opn l none (pos + 1) = []:=rfl
    rw [e,this,e2,List.map_append,List.append_assoc]
    rfl
theorem Lm (p : Nat → Bool) (hp : ∀ x,p x = true → x < 128) (s : ByteArray) : (goFieldsP p s).map (·.data.toList) = Vj (fun b => p b.toNat) [] s.data.toList:=by
 have h1:=rY p hp s s.size 0 none [] (by omega) (by omega)
 have h2:=pieces_bytes (fun b => p b.toNat) s.data.toList s.data.toList 0 none [] rfl (by omega) (fun a ha => by cases ha)
 have hx : ∀ a b : Nat,(s.extract a b).data.toList = (s.data.toList.drop a).take (b - a):=fun a b => by
  simp [ByteArray.data_extract,Array.toList_extract,List.extract]
 rw [List.drop_zero] at h1
 unfold goFieldsP spansOfP closeSpans
 rw [h1,List.map_map]
 have hz : s.data.toList.length = s.size:=Array.length_toList
 rw [hz] at h2
 simp only [List.map_nil,List.nil_append] at h2
 have ho : opn s.data.toList none 0 = []:=rfl
 rw [ho] at h2
 rw [← h2]
 have e : (((·.data.toList) : ByteArray → List UInt8) ∘ fun x : Nat × Nat => s.extract x.1 x.2) = fun x => (s.data.toList.drop x.1).take (x.2 - x.1):=funext fun x => hx x.1 x.2
 rw [e]
 cases h3 : Qn (fun b => p b.toNat) 0 none [] s.data.toList with
 | mk x y => cases y <;> rfl
end Go.Proofs.YtdbpglhdicmhhaaGreatDoor.Fld
end

section
namespace Go.Proofs.YtdbpglhdicmhhaaGreatDoor.qp
open Go.RowKit Go.Shelf Go.Proofs.YtdbpglhdicmhhaaGreatDoorW.aI Go.Proofs.YtdbpglhdicmhhaaGreatDoorW.aX Go.Proofs.YtdbpglhdicmhhaaGreatDoorW.aZ iM
open Go.Proofs.YtdbpglhdicmhhaaGreatDoor.GA
def Qm (s : ByteArray) (c : UInt8) : List ByteArray:=Lib.splitB ⟨#[c]⟩ 0 (Lib.countB s ⟨#[c]⟩) s
theorem TT (s : ByteArray) (c : UInt8) : (Qm s c).length = Lib.countB s ⟨#[c]⟩ + 1:=Lib.splitB_all ⟨#[c]⟩ (by simp [ByteArray.size]) 0 _ s rfl
theorem P9 {w : World} (S : Std w) (s : ByteArray) (c : UInt8) (hs : s.size ≤ 262144) :
  Calls Tryz.prog 20 #[.string s,.string ⟨#[c]⟩] w fun e w' => e = .returned (.slice (some ⟨w.heap.size,0,none⟩) (Qm s c).length (Qm s c).length) ∧ w' = w.alloc (.cells ((Qm s c).map Value.string).toArray 9):=by
 obtain ⟨m,hm⟩:=S.max
 rw [TT]
 exact Tryz.strings_Split s ⟨#[c]⟩ m w (by omega) hm (by simp [ByteArray.size])
def D8 (l : List ByteArray) : Nat:=(l.map ByteArray.size).sum
theorem JB (sep : ByteArray) : ∀ (k : Nat) (s : ByteArray),D8 (Lib.splitB sep 0 k s) ≤ s.size
 | 0,s => by rw [Lib.splitB_zero]; simp [D8]
 | k + 1,s => by
  rw [Lib.splitB]
  split
  ·simp [D8]
  ·have h:=JB sep k (s.extract ((Lib.indexB s sep).toNat + sep.size) s.size)
   unfold D8 at h ⊢
   rw [List.map_cons,List.sum_cons]
   simp only [ByteArray.size_extract] at h ⊢
   omega
theorem ZW (s : ByteArray) (c : UInt8) : D8 (Qm s c) ≤ s.size:=JB _ _ _
theorem U8 (l : List ByteArray) (i : Nat) {p : ByteArray} (h : l[i]? = some p) : D8 (l.take (i + 1)) = D8 (l.take i) + p.size:=by
 rw [List.take_add_one,h]
 unfold D8
 simp
theorem TW (l : List ByteArray) (i : Nat) : D8 (l.take i) ≤ D8 l:=by
 have h:=congrArg D8 (List.take_append_drop i l)
 unfold D8 at *
 rw [List.map_append,List.sum_append] at h
 omega
theorem P8 {l : List ByteArray} {p : ByteArray} (h : p ∈ l) : p.size ≤ D8 l:=by
 unfold D8
 induction l with
 | nil => cases h
 | cons a l ih =>
  rw [List.map_cons,List.sum_cons]
  rcases List.mem_cons.1 h with rfl | h
  ·omega
  ·have:=ih h; omega
def IV (s : ByteArray) : ByteArray:=⟨(Lib.cut s.data.toList [59]).1.toArray⟩
theorem FT (s : ByteArray) : (IV s).size ≤ s.size:=by
 show (Lib.cut s.data.toList [59]).1.toArray.size ≤ s.size
 rw [List.size_toArray]
 have hz : s.data.toList.length = s.size:=Array.length_toList
 unfold Lib.cut
 split
 ·show (s.data.toList.take _).length ≤ _
  rw [List.length_take]; omega
 ·show s.data.toList.length ≤ _
  omega
def VL (b : UInt8) : Bool:=b.toNat == 32 || b.toNat == 9 || b.toNat == 13
def DR (r : Nat) : Bool:=r == 32 || r == 9 || r == 13
theorem ZQ (w : World) : PredAt Tryz.prog 23 #[] encR DR w:=fun W r _ => by
 unfold FnGives
 have e : DR r = ((r : Int) == 32 || ((r : Int) == 9 || (r : Int) == 13)):=by
  unfold DR
  rw [Bool.eq_iff_iff]
  simp
  omega
 rw [e]
 clear e
 by_cases h1 : (r : Int) = 32
 ·have b1 : ((r : Int) == 32) = true:=beq_iff_eq.mpr h1
  rw [b1]
  go_enter Tryz.func23,Tryz.ntmps23
  go_wp2
  go_ret
  exact ⟨rfl,0,rfl⟩
 ·have b1 : ((r : Int) == 32) = false:=beq_eq_false_iff_ne.mpr h1
  by_cases h2 : (r : Int) = 9
  ·have b2 : ((r : Int) == 9) = true:=beq_iff_eq.mpr h2
   rw [b1,b2]
   go_enter Tryz.func23,Tryz.ntmps23
   go_wp2
   go_ret
   exact ⟨rfl,0,rfl⟩
  ·have b2 : ((r : Int) == 9) = false:=beq_eq_false_iff_ne.mpr h2
   rw [b1,b2]
   go_enter Tryz.func23,Tryz.ntmps23
   go_wp2
   go_ret
   exact ⟨rfl,0,rfl⟩
def Qh (s : ByteArray) : List ByteArray:=Lib.goFieldsP DR s
theorem Vd (s : ByteArray) : (Qh s).map (·.data.toList) = Fld.Vj VL [] s.data.toList :=
 Fld.Lm DR (fun x h => by unfold DR at h; simp at h; omega) s
theorem Ls (q : UInt8 → Bool) : ∀ (l cur : List UInt8),(Fld.Vj q cur l).length ≤ l.length + (if cur = [] then 0 else 1)
 | [],cur => by unfold Fld.Vj; split <;> simp
 | b :: r,cur => by
  have h1:=Ls q r []
  have h2:=Ls q r (cur ++ [b])
  rw [if_pos rfl] at h1
  rw [if_neg (by simp)] at h2
  unfold Fld.Vj
  simp only [List.length_cons]
  split
  ·split
   ·omega
   ·simp only [List.length_cons]; omega
  ·omega
theorem aak (s : ByteArray) : (Qh s).length ≤ s.size:=by
 have h:=Ls VL s.data.toList []
 rw [← Vd,List.length_map,if_pos rfl] at h
 have hz : s.data.toList.length = s.size:=Array.length_toList
 omega
theorem Yd {s p : ByteArray} (h : p ∈ Qh s) : p.size ≤ s.size:=by
 unfold Qh Lib.goFieldsP at h
 obtain ⟨x,_,rfl⟩:=List.mem_map.1 h
 simp only [ByteArray.size_extract]; omega
section
variable {es : List TypeId} {w0 W W1 : World} {l : List (Nat × Array Value × TypeId)} {fx : List (Nat × Obj)} {rows : List Row}
theorem aaJ {g : Nat} {cs : Array Value} {t : TypeId} (M : Mem es w0 W l rows) (hg : W.heap.size ≤ g) (hbox : W1.heap[g]? = some (.cells cs t (0,0))) (hb : Below W.heap.size W W1) (ht : t ∉ es) : Mem es w0 W1 (l ++ [(g,cs,t)]) rows:=by
 have M1:=M.call hb
 refine ⟨M1.below,fun x hx => ?_,?_,M1.typ,M1.owns⟩
 ·rcases List.mem_append.1 hx with h | h
  ·exact M1.blk x h
  ·rw [List.mem_singleton] at h; subst h
   exact ⟨hbox,Nat.le_trans (bV M.below) hg,ht⟩
 ·refine List.pairwise_append.2 ⟨M1.apart,List.pairwise_singleton _ _,fun x hx y hy => ?_⟩
  rw [List.mem_singleton] at hy; subst hy
  have:=je (M.blk x hx).1
  show x.1 ≠ g
  omega
theorem _root_.Go.Proofs.YtdbpglhdicmhhaaGreatDoor.iM.bf.perm {l' : List (Nat × Array Value × TypeId)} (M : bf es w0 W l fx rows) (h : l.Perm l') : bf es w0 W l' fx rows:=⟨M.mem.perm h,M.fix,M.part⟩
theorem Ve (M : bf es w0 W l fx rows) (he : 9 ∉ es) (s : ByteArray) (hs : s.size ≤ 262144) :
  Calls Tryz.prog 22 #[.string s,.func (.func 23) #[] #[]] W fun e W' => ∃ gw cur,e = .returned (.slice (some ⟨gw,0,none⟩) (Qh s).length (Qh s).length) ∧ bf es w0 W' (l ++ [(gw,cur,9)]) fx rows ∧ ∀ (i : Nat) p,(Qh s)[i]? = some p → cur[i]? = some (.string p):=by
 refine (Tryz.strings_FieldsFunc 23 #[] (enters_of Tryz.func23 (by kernel_rfl) rfl) _ s W (by omega) (ZQ W)).mono ?_
 rintro e W' ⟨A,rfl,hA,ho,hb⟩
 refine ⟨A,?_⟩
 obtain ⟨hl,⟨h0,_⟩ | ⟨g',cap,cur,hv,hb2,hh,h2,h3,h4,h5⟩⟩:=ho
 ·cases h0
 ·injection hv with hv1 hv2 hv3
  injection hv1 with hv1
  injection hv1 with hv1 _ _
  subst hv1
  have M1:=M.call hb
  refine ⟨cur,rfl,⟨aaJ M.mem hb2 hh hb he,M1.fix,M1.part⟩,fun i p hp => ?_⟩
  have hi : i < (Qh s).length:=(List.getElem?_eq_some_iff.1 hp).1
  have h6 : (cur.toList.take ((Qh s).length * 1))[i]? = some (.string p):=by
   show (cur.toList.take ((Lib.goFieldsP DR s).length * 1))[i]? = _
   rw [h5]
   show ((Qh s).map Value.string)[i]? = _
   rw [List.getElem?_map,hp]; rfl
  rw [List.getElem?_take,if_pos (by omega)] at h6
  simpa using h6
theorem Ri (M : bf es w0 W l fx rows) (he : 9 ∉ es) (S : Std W) (s : ByteArray) (hs : s.size ≤ 262144) :
  Calls Tryz.prog 20 #[.string s,.string ⟨#[10]⟩] W fun e W' => ∃ gs,e = .returned (.slice (some ⟨gs,0,none⟩) (Qm s 10).length (Qm s 10).length) ∧ bf es w0 W' (l ++ [(gs,((Qm s 10).map Value.string).toArray,9)]) fx rows:=by
 refine (P9 S s 10 hs).mono ?_
 rintro e W' ⟨rfl,rfl⟩
 have hb : Below W.heap.size W (W.alloc (.cells ((Qm s 10).map Value.string).toArray 9)):=ak (Below.refl _ _) _
 have M1:=M.call hb
 exact ⟨_,rfl,aaJ M.mem (Nat.le_refl _) (iU W _) hb he,M1.fix,M1.part⟩
variable {ops : Array Oper} {rest : List Oper} {o : Oper} {a : Act} {Q : Exit → Act → World → Prop}
theorem fMk (M : ah (bf es w0 W l fx rows)) (h : ∀ g w1,ah (bf es w0 w1 l (fx ++ [(g,.map #[] 0)]) rows) → wpList Tryz.prog ops Q rest (a.put o.dst (.map (some g))) w1)
  {t : TypeId} (hop : o.op = .makeMap t none:=by with_reducible rfl) (hg : o.guard = none:=by with_reducible rfl) :
  wpList Tryz.prog ops Q (o :: rest) a W:=by
 refine wpList_plain hg fun K hK' => ?_
 unfold Oper.wp
 simp only [execOp,hop,Option.map_none,run_makeMap,Result.andThen]
 exact hK' _ _ (h W.heap.size _ ⟨M.out.made _ (fun cs t f h => by cases h)⟩)
end
def TP (t : ByteArray) : List (List ByteArray):=(Qm t 10).map (fun p => Qh (IV p))
def st0 : St:=⟨[],[],[],[],[],[],false,true,0,0,0,fun _ => none,fun _ => none,fun _ => none⟩
def St.VI (s : St) (i : Nat) (ws : List ByteArray) : St:=if ws = [] then { s with now:=(i + 1 : Nat) } else St.read { s with now:=(i + 1 : Nat) } ws
def St.run (s : St) (i : Nat) : List (List ByteArray) → St
 | [] => s
 | ws :: r => St.run (s.VI i ws) (i + 1) r
def St.done (s : St) : St:=if s.closed.wrong = 0 then s.closed.qN s.closed.uses else s.closed
def gY (t : ByteArray) : St:=(st0.run 0 (TP t)).done
theorem P6 (s : St) (i : Nat) (ws : List ByteArray) (r : List (List ByteArray)) : s.run i (ws :: r) = (s.VI i ws).run (i + 1) r:=rfl
theorem ae3 : Good st0:=⟨rfl,(fun h => by cases h),(fun h => by cases h),(fun _ u hu => by cases hu)⟩
theorem Good.now {s : St} (h : Good s) (n : Int) : Good { s with now:=n }:=h.like
end Go.Proofs.YtdbpglhdicmhhaaGreatDoor.qp
end
