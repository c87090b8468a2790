import Derived.Test.YtdbpglhdicmhhaaGreatDoorMPr17
import Derived.Test.YtdbpglhdicmhhaaGreatDoorMPr18
import Derived.Test.YtdbpglhdicmhhaaGreatDoorMPr19
import Derived.Test.YtdbpglhdicmhhaaGreatDoorMPr4
set_option maxHeartbeats 8000000
set_option maxRecDepth 100000
set_option linter.unusedVariables false
set_option linter.unusedSimpArgs false
section
namespace Go.Proofs.YtdbpglhdicmhhaaGreatDoor.Q
open Go.RowKit Go.Lib Go.Proofs.YtdbpglhdicmhhaaGreatDoor.GA Go.Proofs.YtdbpglhdicmhhaaGreatDoor.rQ Go.Proofs.YtdbpglhdicmhhaaGreatDoorW.aI Go.Proofs.YtdbpglhdicmhhaaGreatDoorW.aX Go.Proofs.YtdbpglhdicmhhaaGreatDoorW.aZ
theorem up {α : Type} {f : Nat → Option α} (h : ∀ k,rH (f k) (f (k + 1))) {k : Nat} {r : α} (hk : f k = some r) : ∀ j,k ≤ j → f j = some r:=by
 intro j hj
 obtain ⟨d,rfl⟩ : ∃ d,j = k + d:=⟨j - k,by omega⟩
 clear hj
 induction d with
 | zero => exact hk
 | succ d ih => exact h (k + d) r ih
def bs (l : List UInt8) : ByteArray:=⟨l.toArray⟩
theorem wV (l : List UInt8) : (bs l).data.toList = l:=rfl
theorem eX (l : List UInt8) : (bs l).size = l.length:=List.size_toArray
theorem VN (a : ByteArray) : a = bs a.data.toList:=by
 show a = ⟨a.data.toList.toArray⟩
 rw [Array.toArray_toList]
theorem iD (l m : List UInt8) : bs l ++ bs m = bs (l ++ m):=by
 rw [VN (bs l ++ bs m)]
 congr 1
theorem QI (u : Nat) (h : u < 10) : strOfNums [(wrap64 (48 + (u : Int))) % 256] = bs (decDigits u):=by
 rw [decDigits_one h]
 have : wrap64 (48 + (u : Int)) % 256 = ((48 + u : Nat) : Int):=by unfold wrap64; omega
 rw [this]
 rfl
theorem Hr : ∀ (j u : Nat),u < 10 ^ (j + 1) → j ≤ 16 → aJ.f (j + 1) (u : Int) = some (bs (decDigits u)) ∧ (decDigits u).length ≤ j + 1
 | 0,u,h,hj => by
  have h10 : u < 10:=by simpa using h
  rw [aJ.f,if_neg (by omega),if_pos (by omega),QI u h10]
  refine ⟨rfl,?_⟩
  rw [decDigits_one h10]; exact Nat.le_refl 1
 | j + 1,u,h,hj => by
  by_cases h10 : u < 10
  ·rw [aJ.f,if_neg (by omega),if_pos (by omega),QI u h10]
   refine ⟨rfl,?_⟩
   rw [decDigits_one h10]; show 1 ≤ _; omega
  ·have hd : u / 10 < 10 ^ (j + 1):=by
    rw [Nat.div_lt_iff_lt_mul (by omega)]
    rw [Nat.pow_succ] at h; exact h
   obtain ⟨ih,ihl⟩:=Hr j (u / 10) hd (by omega)
   by_cases hbig : u < 9223372036854775808
   ·have e1 : wrap64 (Int.tdiv (u : Int) 10) = ((u / 10 : Nat) : Int):=by
     rw [Int.tdiv_eq_ediv_of_nonneg (by omega)]
     unfold wrap64; omega
    have e2 : wrap64 (48 + Int.tmod (u : Int) 10) % 256 = wrap64 (48 + ((u % 10 : Nat) : Int)) % 256:=by
     rw [Int.tmod_eq_emod_of_nonneg (by omega)]
     unfold wrap64; omega
    rw [aJ.f,if_neg (by omega),if_neg (by omega),e1,ih,e2]
    have e3:=QI (u % 10) (by omega)
    simp only [Option.bind_some]
    rw [e3,eX,eX,decDigits_one (show u % 10 < 10 by omega),if_pos (by simp only [List.length_cons,List.length_nil]; omega),iD,Num.IW h10]
    refine ⟨rfl,?_⟩
    rw [List.length_append]; simp only [List.length_cons,List.length_nil]; omega
   ·exfalso
    have : (10 : Nat) ^ (j + 1 + 1) ≤ 10 ^ 17:=Nat.pow_le_pow_right (by omega) (by omega)
    omega
theorem SQ (n : Int) (h0 : -100000 < n) (h1 : n < 100000) : aJ.f 8 n = some (bs (itoa n)) ∧ (itoa n).length ≤ 8:=by
 by_cases hn : n < 0
 ·obtain ⟨u,rfl⟩ : ∃ u : Nat,n = -(u : Int):=⟨(-n).toNat,by omega⟩
  obtain ⟨h2,h3⟩:=Hr 6 u (by omega) (by omega)
  have e : itoa (-(u : Int)) = 45 :: decDigits u:=by unfold itoa; rw [if_pos hn,Int.natAbs_neg,Int.natAbs_natCast]
  have e1 : wrap64 (- -(u : Int)) = (u : Int):=by unfold wrap64; omega
  rw [aJ.f,if_pos hn,e1,h2,e]
  refine ⟨?_,by simp only [List.length_cons]; omega⟩
  simp only [Option.bind_some]
  rw [eX,if_pos (by omega),show (⟨#[45]⟩ : ByteArray) = bs [45] from rfl,iD]
  rfl
 ·obtain ⟨u,rfl⟩ : ∃ u : Nat,n = (u : Int):=⟨n.toNat,by omega⟩
  obtain ⟨h2,h3⟩:=Hr 7 u (by omega) (by omega)
  have e : itoa (u : Int) = decDigits u:=by unfold itoa; rw [if_neg hn,Int.toNat_natCast]
  rw [e]
  exact ⟨h2,h3⟩
def iQ (op : Int) : List UInt8:=if op = 17 ∨ op = 18 ∨ op = 19 then [76] else if op = 20 ∨ op = 22 then [102] else if op = 34 then [116] else []
theorem Jg (op : Int) : (iQ op).length ≤ 1:=by
 unfold iQ
 repeat' split
 all_goals simp
theorem Ot (k : Nat) (op : Int) : bQ.f (k + 2) op = some (bs (iQ op)):=by
 unfold bQ.f bQ.j0 bQ.j1 iQ
 by_cases h1 : op = 17
 ·subst h1; rfl
 by_cases h2 : op = 18
 ·subst h2; rfl
 by_cases h3 : op = 19
 ·subst h3; rfl
 by_cases h4 : op = 20
 ·subst h4; rfl
 by_cases h5 : op = 22
 ·subst h5; rfl
 by_cases h6 : op = 34
 ·subst h6; rfl
 simp [h1,h2,h3,h4,h5,h6]
 rfl
theorem prefix_at (k : Nat) (op : Int) : aW.f (k + 2) op = some (bs (iQ op)):=by
 unfold aW.f aW.j0 aW.j1 iQ
 by_cases h1 : op = 17
 ·subst h1; rfl
 by_cases h2 : op = 18
 ·subst h2; rfl
 by_cases h3 : op = 19
 ·subst h3; rfl
 by_cases h4 : op = 20
 ·subst h4; rfl
 by_cases h5 : op = 22
 ·subst h5; rfl
 by_cases h6 : op = 34
 ·subst h6; rfl
 simp [h1,h2,h3,h4,h5,h6]
 rfl
def uZ (n : Int) : Prop:=-100000 < n ∧ n < 100000
theorem Nq {n : Int} (h : uZ n) : eG.f n = some (bs (itoa n)):=by
 unfold eG.f
 rw [if_pos ⟨by have:=h.1; omega,by have:=h.2; omega⟩]; rfl
theorem jL {n : Int} (h : uZ n) : (itoa n).length ≤ 8:=(SQ n h.1 h.2).2
def tu (n : Int) : List UInt8:=[32,114] ++ itoa n
def FY (jC : Bool) (op m : Int) : List UInt8:=if jC then [32] ++ iQ op ++ itoa m else []
theorem acY (k : Nat) (x : List UInt8) (jC : Bool) (xs : List Int) (o a b c m : Int) (hx : x.length ≤ 1000) (hm : uZ m) :
  aY.l0 (k + 3) (bs x) jC xs (xs.length : Int) (xs.length : Int) o a b c m = some (bs (x ++ FY jC o m),0):=by
 have hp:=Jg o
 have hi:=jL hm
 rw [aY.l0,if_neg (by omega)]
 cases jC with
 | false => rw [if_neg (by simp)]; unfold FY; simp
 | true =>
  rw [if_pos rfl,prefix_at k o,Nq hm]
  simp only [Option.bind_some]
  rw [show (⟨#[32]⟩ : ByteArray) = bs [32] from rfl,iD,iD,eX,eX,eX,eX,eX]
  rw [if_pos (by omega),if_pos (by simp only [List.length_append,List.length_cons,List.length_nil]; omega),if_pos (by simp only [List.length_append,List.length_cons,List.length_nil]; omega),iD]
  rfl
theorem Xq (jC : Bool) (xs : List Int) (o a b c m : Int) (hxs : ∀ x ∈ xs,uZ x) (hm : uZ m) (hn : xs.length ≤ 3) : ∀ (d i : Nat) (x : List UInt8),i + d = xs.length → x.length ≤ 100 + i * 10 →
  aY.l0 (d + 3) (bs x) jC xs (xs.length : Int) (i : Int) o a b c m = some (bs (x ++ (xs.drop i).flatMap tu ++ FY jC o m),0)
 | 0,i,x,hd,hx => by
  obtain rfl : i = xs.length:=by omega
  rw [List.drop_length,List.flatMap_nil,List.append_nil]
  exact acY 0 x jC xs o a b c m (by omega) hm
 | d + 1,i,x,hd,hx => by
  have hi : i < xs.length:=by omega
  obtain ⟨y,hy⟩ : ∃ y,xs[i]? = some y:=⟨_,List.getElem?_eq_getElem hi⟩
  have hfy:=hxs y (List.mem_of_getElem? hy)
  have hly:=jL hfy
  have e : rd xs (i : Int) = y:=by unfold rd; rw [Int.toNat_natCast,List.getD_eq_getElem?_getD,hy]; rfl
  rw [show d + 1 + 3 = (d + 3) + 1 from rfl,aY.l0,if_pos (by omega),if_pos (by omega),if_pos (by omega),e,Nq hfy]
  simp only [Option.bind_some]
  rw [show (⟨#[32,114]⟩ : ByteArray) = bs [32,114] from rfl,iD,eX,eX,eX,if_pos (by omega),if_pos (by simp only [List.length_append,List.length_cons,List.length_nil]; omega),iD,
   show wrap64 ((i : Int) + 1) = ((i + 1 : Nat) : Int) by unfold wrap64; omega]
  rw [Xq jC xs o a b c m hxs hm hn d (i + 1) _ (by omega) (by simp only [List.length_append,List.length_cons,List.length_nil]; omega)]
  rw [show xs.drop i = y :: xs.drop (i + 1) from by
   obtain ⟨h1,h2⟩:=List.getElem?_eq_some_iff.1 hy
   rw [List.drop_eq_getElem_cons h1,h2],List.flatMap_cons]
  simp only [tu,List.append_assoc]
def Jc (k : Nat) (a b c m : Int) : List UInt8:=(dH.rowAt k).1.data.toList ++ ([a,b,c].take (if (dH.rowAt k).2.1 = 1 ∨ (dH.rowAt k).2.1 = 5 ∨ (dH.rowAt k).2.1 = 6 then 1 else if (dH.rowAt k).2.1 = 2 then 2 else if (dH.rowAt k).2.1 = 3 then 3 else 0)).flatMap tu ++ FY (decide ((dH.rowAt k).2.1 = 4 ∨ (dH.rowAt k).2.1 = 5 ∨ (dH.rowAt k).2.1 = 6)) ((k : Int) + 1) m
theorem Pz : ((List.range 58).all fun i => decide ((dH.rowAt i).1.size ≤ 100)) = true:=by kernel_rfl
theorem DX {i : Nat} (hi : i < 58) : (dH.rowAt i).1.data.toList.length ≤ 100:=by
 have:=List.all_eq_true.1 Pz i (List.mem_range.2 hi)
 rw [Array.length_toList]
 exact of_decide_eq_true this
theorem Kt {l0 : List Int} {l1 : List jw} {l2 : List qB} {i : Nat} {w : Int} (hw : l0[i]? = some w) {k : Nat} (hk : k < 58) {a b c m : Int} (hd : dQ.f w = some ((k : Int) + 1,a,b,c,m,0)) (ha : uZ a) (hb : uZ b) (hc : uZ c) (hm : uZ m) :
  aY.f 8 l0 l1 l2 (i : Int) = some (bs (Jc k a b c m),0):=by
 have hil : i < l0.length:=(List.getElem?_eq_some_iff.1 hw).1
 have e : rd l0 (i : Int) = w:=by unfold rd; rw [Int.toNat_natCast,List.getD_eq_getElem?_getD,hw]; rfl
 have hnm : uy.f ((k : Int) + 1) = some ((dH.rowAt k).1,0):=by unfold uy.f; rw [Lr k hk]; rfl
 have hsh : eF.f ((k : Int) + 1) = some ((dH.rowAt k).2.1,0):=by unfold eF.f; rw [Lr k hk]; rfl
 have hln:=DX hk
 obtain ⟨_,_,s0,s1⟩:=Lc hk
 unfold aY.f
 rw [if_neg (by omega),show decide ((i : Int) ≥ (l0.length : Int)) = false from decide_eq_false (by omega),aY.j0,if_neg (by simp),if_pos (by omega),if_pos (by omega),e,hd]
 simp only [Option.bind_some,if_true]
 rw [hnm]
 simp only [Option.bind_some]
 rw [hsh]
 simp only [Option.bind_some]
 unfold Jc
 rw [VN (dH.rowAt k).1]
 simp only [wV]
 generalize (dH.rowAt k).1.data.toList = nm at hln ⊢
 generalize (dH.rowAt k).2.1 = s at s0 s1 ⊢
 have hall : ∀ x ∈ [a,b,c],uZ x:=by
  intro x hx
  simp only [List.mem_cons,List.not_mem_nil,or_false] at hx
  rcases hx with rfl | rfl | rfl
  ·exact ha
  ·exact hb
  ·exact hc
 have go : ∀ (n : Nat) (jC : Bool),n ≤ 3 → (if 0 ≤ (n : Int) then (if (n : Int) ≤ (([a,b,c] : List Int).length : Int) then (aY.l0 7 (bs nm) jC (([a,b,c] : List Int).take (n : Int).toNat) ((([a,b,c] : List Int).take (n : Int).toNat).length : Int) 0 ((k : Int) + 1) a b c m) else none) else none) = some (bs (nm ++ ([a,b,c].take n).flatMap tu ++ FY jC ((k : Int) + 1) m),0):=by
  intro n jC hn
  rw [if_pos (by omega),if_pos (by simp only [List.length_cons,List.length_nil]; omega),Int.toNat_natCast]
  have hl : (([a,b,c] : List Int).take n).length = n:=by rw [List.length_take]; simp only [List.length_cons,List.length_nil]; omega
  have h1:=Xq jC (([a,b,c] : List Int).take n) ((k : Int) + 1) a b c m (fun x hx => hall x (List.mem_of_mem_take hx)) hm (by omega) n 0 nm (by omega) (by omega)
  rw [List.drop_zero] at h1
  exact up (fun k' => (aY.BZ k').2 _ _ _ _ _ _ _ _ _ _) h1 7 (by omega)
 have hs : s = 0 ∨ s = 1 ∨ s = 2 ∨ s = 3 ∨ s = 4 ∨ s = 5 ∨ s = 6:=by omega
 rcases hs with rfl | rfl | rfl | rfl | rfl | rfl | rfl
 ·exact go 0 false (by omega)
 ·exact go 1 false (by omega)
 ·exact go 2 false (by omega)
 ·exact go 3 false (by omega)
 ·exact go 0 true (by omega)
 ·exact go 1 true (by omega)
 ·exact go 1 true (by omega)
theorem Xu {l0 : List Int} {l1 : List jw} {l2 : List qB} {i : Int} (h : i < 0 ∨ (l0.length : Int) ≤ i) : aY.f 8 l0 l1 l2 i = some (⟨#[]⟩,1):=by
 unfold aY.f
 by_cases h0 : i < 0
 ·rw [if_pos h0,aY.j0,if_pos rfl]
 ·rw [if_neg h0,show decide (i ≥ (l0.length : Int)) = true from decide_eq_true (by omega),aY.j0,if_pos rfl]
theorem Xt {l0 : List Int} {l1 : List jw} {l2 : List qB} {i : Nat} {w : Int} (hw : l0[i]? = some w) {o a b c m e : Int} (hd : dQ.f w = some (o,a,b,c,m,e)) (he : e ≠ 0) : aY.f 8 l0 l1 l2 (i : Int) = some (⟨#[]⟩,e):=by
 have hil : i < l0.length:=(List.getElem?_eq_some_iff.1 hw).1
 have e1 : rd l0 (i : Int) = w:=by unfold rd; rw [Int.toNat_natCast,List.getD_eq_getElem?_getD,hw]; rfl
 unfold aY.f
 rw [if_neg (by omega),show decide ((i : Int) ≥ (l0.length : Int)) = false from decide_eq_false (by omega),aY.j0,if_neg (by simp),if_pos (by omega),if_pos (by omega),e1,hd]
 simp only [Option.bind_some]
 rw [if_neg he]
end Go.Proofs.YtdbpglhdicmhhaaGreatDoor.Q
end

section
namespace Go.Proofs.YtdbpglhdicmhhaaGreatDoor.Q
open Go.RowKit Go.Lib Go.Proofs.YtdbpglhdicmhhaaGreatDoor.GA Go.Proofs.YtdbpglhdicmhhaaGreatDoor.rQ Go.Proofs.YtdbpglhdicmhhaaGreatDoorW.aI Go.Proofs.YtdbpglhdicmhhaaGreatDoorW.aX Go.Proofs.YtdbpglhdicmhhaaGreatDoorW.aZ
theorem wW (w : Int) (h0 : 0 ≤ w) (h1 : w < 4294967296) : (∃ (k : Nat) (a b c m : Int),k < 58 ∧ dQ.f w = some ((k : Int) + 1,a,b,c,m,0) ∧ uZ a ∧ uZ b ∧ uZ c ∧ uZ m) ∨ ∃ (o a b c m e : Int),dQ.f w = some (o,a,b,c,m,e) ∧ e ≠ 0:=by
 rcases Xh (w / 16777216) with ⟨j,hj,ho⟩ | hn
 ·have h:=CG j hj w h0 h1 ho
  by_cases hf : jA (dA w) (dB w) (dC w (dH.rowAt j).2.1) (dM w (dH.rowAt j).2.1) (dH.rowAt j).2.1 = true
  ·rw [if_pos hf] at h
   obtain ⟨b1,b2,b3,b4,b5,b6,_,b7,b8⟩:=SY hf
   exact .inl ⟨j,_,_,_,_,hj,h,⟨by omega,by omega⟩,⟨by omega,by omega⟩,⟨by omega,by omega⟩,⟨by omega,by omega⟩⟩
  ·rw [if_neg hf] at h
   exact .inr ⟨_,_,_,_,_,_,h,by decide⟩
 ·exact .inr ⟨_,_,_,_,_,_,BP w h0 h1 hn,by decide⟩
end Go.Proofs.YtdbpglhdicmhhaaGreatDoor.Q
end

section
namespace Go.Proofs.YtdbpglhdicmhhaaGreatDoor.GA
open Go.RowKit Go.Proofs.YtdbpglhdicmhhaaGreatDoorW.aI Go.Proofs.YtdbpglhdicmhhaaGreatDoorW.aX Go.Proofs.YtdbpglhdicmhhaaGreatDoorW.aZ
mutual
def bT.j0 : Nat → List Int → ByteArray → Option (ByteArray × Bool)
 | 0,_,_ => none
 | k + 1,x4,x5 => bT.l0 k x5 x4 (x4.length : Int) 0
def bT.l0 : Nat → ByteArray → List Int → Int → Int → Option (ByteArray × Bool)
 | 0,_,_,_,_ => none
 | k + 1,x5,x21,x22,x23 => if x23 < x22 then (if 0 ≤ x23 then (if x23 < (x21.length : Int) then (if (rd x21 x23) < 0 then (some ((⟨#[]⟩ : ByteArray),false)) else (if (rd x21 x23) ≥ 16 then (some ((⟨#[]⟩ : ByteArray),false)) else ((eG.f (rd x21 x23)).bind fun Dl => (if 2 + Dl.size ≤ 9223372036854775807 then (if x5.size + ((⟨#[32,114]⟩ : ByteArray) ++ Dl).size ≤ 9223372036854775807 then (bT.l0 k (x5 ++ ((⟨#[32,114]⟩ : ByteArray) ++ Dl)) x21 x22 (wrap64 (x23 + 1))) else (none)) else (none))))) else (none)) else (none)) else (some (x5,true))
end
def bT.f (k : Nat) (gy : Bool) (gB : Int) (gG : Int) (gI : Int) : Option (ByteArray × Bool):=(some (([gB,gG] : List Int) : List Int)).bind fun BL => (if gy = true then (bT.j0 k BL (⟨#[115,101,110,100]⟩ : ByteArray)) else (if BL.length < 17592186044416 then (bT.j0 k (BL ++ [gI]) (⟨#[114,101,99,118]⟩ : ByteArray)) else (none)))
theorem bT.calls (k : Nat) (gy : Bool) (gB : Int) (gG : Int) (gI : Int) (r1 : ByteArray) (r2 : Bool) (w : World) (uP : Laid.Af w) (h : bT.f k gy gB gG gI = some (r1,r2)) :
  Calls Tryz.prog 48 #[.agg #[.bool gy,.int .i64 gB,.int .i64 gG,.int .i64 gI]] w fun e w' => e = .returned (.tuple #[.string r1,.bool r2]) ∧ Below w.heap.size w w':=by
 have amN:=Tryz.underlying46
 have HB:=ah.mk (Below.refl w.heap.size w)
 have H : ((some (([gB,gG] : List Int) : List Int)).bind fun BL => (if gy = true then (bT.j0 k BL (⟨#[115,101,110,100]⟩ : ByteArray)) else (if BL.length < 17592186044416 then (bT.j0 k (BL ++ [gI]) (⟨#[114,101,99,118]⟩ : ByteArray)) else (none)))) = some (r1,r2):=h
 clear h
 obtain ⟨BL,O6⟩ : ∃ y_ : List Int,y_ = (([gB,gG] : List Int)):=⟨_,rfl⟩
 replace H : (if gy = true then (bT.j0 k BL (⟨#[115,101,110,100]⟩ : ByteArray)) else (if BL.length < 17592186044416 then (bT.j0 k (BL ++ [gI]) (⟨#[114,101,99,118]⟩ : ByteArray)) else (none))) = some (r1,r2):=by first | (rw [O6]; with_reducible exact H) | (have H2_:=(Option.bind_some _ _).symm.trans H; rw [O6]; with_reducible exact H2_) | (have H2_:=(Option.bind_some _ _).symm.trans H; with_reducible exact H2_) | with_reducible exact H | (rw [O6]; exact H) | exact H
 have aaG:=ah.mk O6
 clear O6
 have HC2:=ah.mk H
 clear H
 go_enter Tryz.func48,Tryz.ntmps48
 go_upto_if 15 with (first | ((with_reducible refine bI (N:=1) rfl ?_); refine dV ?hg (N:=1) ?hd (cs:=#[.bool gy,.int .i64 gB,.int .i64 gG,.int .i64 gI]) (t:=46) ?hr ?_; (case hd => rfl); (case hg => rfl); (case hr => first | (go_simp; done) | (go_simp; rfl)); intro uO hg w3 hbox hb; have n0_:=ah.mk (bP (by repeat (first | (with_reducible first | exact HB.out | apply ak | apply aj | apply ay) | exact HB.out)) hb); have n1_:=ah.mk (hbox); have n2_:=ah.mk ((by rw [hg]; exact (bV (by repeat (first | (with_reducible first | exact HB.out | apply ak | apply aj | apply ay) | exact HB.out))) : w.heap.size ≤ uO)); have n3_:=ah.mk ((by rw [hg]; exact (bV (by repeat (first | (with_reducible first | exact HB.out | apply ak | apply aj | apply ay) | exact HB.out))) : w.heap.size ≤ uO)); clear HB; have HB:=n0_; have iJ:=n1_; have ajN:=n2_; have AO:=n3_; clear n0_ n1_ n2_ n3_; clear hb hbox hg; have Wv : w3.cell? ⟨uO,0,none⟩ = some (.bool gy):=(aA iJ.out 0).trans rfl; have Wx : w3.cell? ⟨uO,1,none⟩ = some (.int .i64 gB):=(aA iJ.out 1).trans rfl; have Wy : w3.cell? ⟨uO,2,none⟩ = some (.int .i64 gG):=(aA iJ.out 2).trans rfl; have WA : w3.cell? ⟨uO,3,none⟩ = some (.int .i64 gI):=(aA iJ.out 3).trans rfl; have WG:=au iJ.out 0; have WH:=au iJ.out 1; have WI:=au iJ.out 2; have WJ:=au iJ.out 3) | ((with_reducible refine bI (N:=12) rfl ?_); refine Kd.VF (Kd.int .i64) _ 3 ?hg (N:=12) ?hd (xs:=([gB,gG] : List Int)) (inner:=[.int .i64 gB,.int .i64 gG]) (ok:=fun _ => True) (Df:=fun _ => True) ?hr ?hp (fun _ hk => hk) trivial (Below.refl _ _) (Nat.le_refl _) (by simp) ?_; (case hd => rfl); (case hg => rfl); (case hr => first | (go_simp; done) | (go_simp; rfl)); (case hp => exact (gJ.one (show Kd.M (Kd.int .i64) _ _ _ gB [.int .i64 gB] from rfl) (gJ.one (show Kd.M (Kd.int .i64) _ _ _ gG [.int .i64 gG] from rfl) (gJ.none _ _)))); intro ajs w5 ho6 hb hg_ hnew_; clear hg_ hnew_; (first | rw [← aaG.out] at ho6 | (simp only [Int.reduceToNat] at ho6; rw [← aaG.out] at ho6)); have n0_:=ah.mk (Kd.Bd ho6 (bV (by repeat (first | (with_reducible first | exact HB.out | apply ak | apply aj | apply ay | refine aN ?_ AO.out) | exact HB.out)))); have n1_:=ah.mk (bU (g:=uO) (o:=.cells #[.bool gy,.int .i64 gB,.int .i64 gG,.int .i64 gI] 46 (0,0)) (by (with_reducible repeat (first | refine aG ?_ _ | refine aQ ?_ | refine aC ?_ _)); exact iJ.out) hb); have n2_:=ah.mk (bP (by repeat (first | (with_reducible first | exact HB.out | apply ak | apply aj | apply ay | refine aN ?_ AO.out) | exact HB.out)) hb); clear iJ; clear HB; have RV:=n0_; have iJ:=n1_; have HB:=n2_; clear n0_ n1_ n2_; clear hb ho6; have LY : w5.cell? ⟨uO,0,none⟩ = some (.bool gy):=(aA iJ.out 0).trans rfl; have LZ : w5.cell? ⟨uO,1,none⟩ = some (.int .i64 gB):=(aA iJ.out 1).trans rfl; have L6 : w5.cell? ⟨uO,2,none⟩ = some (.int .i64 gG):=(aA iJ.out 2).trans rfl; have QN : w5.cell? ⟨uO,3,none⟩ = some (.int .i64 gI):=(aA iJ.out 3).trans rfl; have Na:=au iJ.out 0; have Nb:=au iJ.out 1; have Nc:=au iJ.out 2; have QO:=au iJ.out 3))
 (try simp only [Act.put,bF,bH,bG])
 go_cut [4,5] (fun v4 v5 wc => ∃ (kq : Nat) (jE : List Int) (aaq : ByteArray),v5 = .string aaq ∧ ah (bT.j0 kq jE aaq = some (r1,r2)) ∧ ah (kq ≤ k) ∧ ah (Kd.R (Kd.int .i64) 3 wc w.heap.size (fun _ => True) v4 jE) ∧ ah (wc.heap[uO]? = some (.cells #[.bool gy,.int .i64 gB,.int .i64 gG,.int .i64 gI] 46 (0,0))) ∧ ah (Below w.heap.size w wc))
 case first =>
  have H:=HC2.out
  clear HC2
  by_cases c8 : gy = true
  ·subst c8
   have H1 : (bT.j0 k BL (⟨#[115,101,110,100]⟩ : ByteArray)) = some (r1,r2):=by rw [if_pos rfl] at H; exact H
   clear H
   have H:=H1
   clear H1
   have H':=ah.mk H
   clear H
   go_wp2
   go_meet
   case rel => exact ⟨_,(BL),((⟨#[115,101,110,100]⟩ : ByteArray)),(by first | rfl | (simp; done) | (simp [*]; done)),H',⟨by first | omega | exact Nat.le_refl _⟩,⟨by (with_reducible repeat (first | apply Kd.uI | apply Kd.tC | apply Kd.wL)); exact RV.out⟩,⟨by (with_reducible repeat (first | refine aG ?_ _ | refine aQ ?_ | refine aC ?_ _)); exact iJ.out⟩,⟨by repeat (first | (with_reducible first | exact HB.out | apply ak | apply aj | apply ay | refine aN ?_ AO.out) | exact HB.out)⟩⟩
  ·replace c8:=Bool.eq_false_iff.mpr c8
   subst c8
   have H1 : (if BL.length < 17592186044416 then (bT.j0 k (BL ++ [gI]) (⟨#[114,101,99,118]⟩ : ByteArray)) else (none)) = some (r1,r2):=by rw [if_neg (show ¬ (false = true) by decide)] at H; exact H
   clear H
   have H:=H1
   clear H1
   by_cases c9 : BL.length < 17592186044416
   ·rw [if_pos c9] at H
    have air:=ah.mk c9
    clear c9
    obtain ⟨afS,O7⟩ : ∃ y_ : List Int,y_ = (BL ++ [gI]):=⟨_,rfl⟩
    replace H : (bT.j0 k afS (⟨#[114,101,99,118]⟩ : ByteArray)) = some (r1,r2):=by first | (rw [O7]; with_reducible exact H) | (have H2_:=(Option.bind_some _ _).symm.trans H; rw [O7]; with_reducible exact H2_) | (have H2_:=(Option.bind_some _ _).symm.trans H; with_reducible exact H2_) | with_reducible exact H | (rw [O7]; exact H) | exact H
    have aeH:=ah.mk O7
    clear O7
    have H':=ah.mk H
    clear H
    have LD : w5.cell? ⟨uO,0,none⟩ = some (.bool false):=(aA iJ.out 0).trans rfl
    have LG : w5.cell? ⟨uO,1,none⟩ = some (.int .i64 gB):=(aA iJ.out 1).trans rfl
    have LH : w5.cell? ⟨uO,2,none⟩ = some (.int .i64 gG):=(aA iJ.out 2).trans rfl
    have LJ : w5.cell? ⟨uO,3,none⟩ = some (.int .i64 gI):=(aA iJ.out 3).trans rfl
    have L8:=au iJ.out 0
    have L9:=au iJ.out 1
    have Mc:=au iJ.out 2
    have Md:=au iJ.out 3
    go_wp2_with (first | ((with_reducible refine jB (b:=.append) (xs:=#[.tmp 16,.tmp 19]) rfl ?_); at_builtin; refine Kd.Oo (Kd.int .i64) (w0:=w) w.heap.size rfl (.tmp 16) (.tmp 19) 52 3 (.int .i64 0) 8 rfl Tryz.underlying52 info3 rfl (by decide) (by omega) ajs BL gI [.int .i64 gI] (fun _ => True) (fun _ => False) rfl rfl ?aP (fun _ hk => hk.elim) ?aF ?aO ?aB ?aS ?aL ?_; (case aP => exact rfl); (case aB => exact (by repeat (first | (with_reducible first | exact HB.out | apply ak | apply aj | apply ay | refine aN ?_ AO.out) | exact HB.out))); (case aF => exact (fun _ _ => trivial)); (case aO => exact (by (with_reducible repeat (first | apply Kd.uI | apply Kd.tC | apply Kd.wL)); exact RV.out)); (case aS => exact (bV (by repeat (first | (with_reducible first | exact HB.out | apply ak | apply aj | apply ay | refine aN ?_ AO.out) | exact HB.out)))); (case aL => have:=air.out; omega); intro ana Qg ho hb hg hat; rw [← aeH.out] at ho; have n0_:=ah.mk (FQ (g:=uO) (o:=.cells #[.bool false,.int .i64 gB,.int .i64 gG,.int .i64 gI] 46 (0,0)) (by (with_reducible repeat (first | refine aG ?_ _ | refine aQ ?_ | refine aC ?_ _)); exact iJ.out) hg (Kd.aix RV.out iJ.out (by decide))); have n1_:=ah.mk (hb); have n2_:=ah.mk (ho); clear iJ; clear HB; clear RV; have iJ:=n0_; have HB:=n1_; have aew:=n2_; clear n0_ n1_ n2_; clear ho hb hg hat))
    go_meet
    case rel => exact ⟨_,(afS),((⟨#[114,101,99,118]⟩ : ByteArray)),(by first | rfl | (simp; done) | (simp [*]; done)),H',⟨by first | omega | exact Nat.le_refl _⟩,⟨by (with_reducible repeat (first | apply Kd.uI | apply Kd.tC | apply Kd.wL)); exact aew.out⟩,⟨by (with_reducible repeat (first | refine aG ?_ _ | refine aQ ?_ | refine aC ?_ _)); exact iJ.out⟩,⟨by repeat (first | (with_reducible first | exact HB.out | apply ak | apply aj | apply ay | refine aN ?_ AO.out) | exact HB.out)⟩⟩
   ·rw [if_neg c9] at H
    exact absurd H (by simp)
 case rest =>
  clear HC2
  try clear p2
  try clear c4
  try clear c8
  try clear c9
  try clear LD
  try clear LG
  try clear LH
  try clear LJ
  try clear Wv
  try clear Wx
  try clear Wy
  try clear WA
  try clear LY
  try clear LZ
  try clear L6
  try clear QN
  try clear L8
  try clear L9
  try clear Mc
  try clear Md
  try clear WG
  try clear WH
  try clear WI
  try clear WJ
  try clear Na
  try clear Nb
  try clear Nc
  try clear QO
  obtain ⟨kq,jE,aaq,rfl,HA,Uj,aex,iJ,HB⟩:=hcut
  cases kq with
  | zero => exact absurd HA.out (by simp [bT.j0])
  | succ TN =>
   have H:=HA.out
   clear HA
   simp only [bT.j0] at H
   have H':=ah.mk H
   clear H
   obtain ⟨ahP,aiK,aiP⟩:=Kd.iy aex.out
   subst aiP
   go_wp2
   go_loopg [5,23] TN (fun kq v5 v23 w' => ∃ (JX : ByteArray) (qA : Int),v5 = .string JX ∧ v23 = .int .i64 qA ∧ ah (bT.l0 kq JX jE (jE.length : Int) qA = some (r1,r2)) ∧ ah (kq ≤ TN) ∧ ah (Kd.R (Kd.int .i64) 3 w' w.heap.size (fun _ => True) (.slice ahP jE.length aiK) jE) ∧ ah (w'.heap[uO]? = some (.cells #[.bool gy,.int .i64 gB,.int .i64 gG,.int .i64 gI] 46 (0,0))) ∧ ah (Below w.heap.size w w'))
   case atStart => exact ⟨(aaq),(0),(by first | rfl | (simp; done) | (simp [*]; done)),(by first | rfl | (simp; done) | (simp [*]; done)),H',⟨Nat.le_refl _⟩,⟨by (with_reducible repeat (first | apply Kd.uI | apply Kd.tC | apply Kd.wL)); exact aex.out⟩,⟨by (with_reducible repeat (first | refine aG ?_ _ | refine aQ ?_ | refine aC ?_ _)); exact iJ.out⟩,⟨by repeat (first | (with_reducible first | exact HB.out | apply ak | apply aj | apply ay | refine aN ?_ AO.out) | exact HB.out)⟩⟩
   case round =>
    clear H'
    try clear p2
    try clear c4
    try clear c8
    try clear c9
    try clear LD
    try clear LG
    try clear LH
    try clear LJ
    try clear Wv
    try clear Wx
    try clear Wy
    try clear WA
    try clear LY
    try clear LZ
    try clear L6
    try clear QN
    try clear L8
    try clear L9
    try clear Mc
    try clear Md
    try clear WG
    try clear WH
    try clear WI
    try clear WJ
    try clear Na
    try clear Nb
    try clear Nc
    try clear QO
    try clear p2
    obtain ⟨JX,qA,rfl,rfl,HA,FC,Iw,iJ,HB⟩:=hrel
    cases gk with
    | zero => exact absurd HA.out (by simp [bT.l0])
    | succ k2 =>
     have H:=HA.out
     clear HA
     simp only [bT.l0] at H
     by_cases c13 : qA < (jE.length : Int)
     ·rw [if_pos c13] at H
      have aeO : decide (qA < (jE.length : Int)) = true:=decide_eq_true c13
      clear c13
      by_cases c14 : 0 ≤ qA
      ·rw [if_pos c14] at H
       have akg : decide (0 ≤ qA) = true:=decide_eq_true c14
       clear c14
       by_cases c15 : qA < (jE.length : Int)
       ·rw [if_pos c15] at H
        have aaK : decide (qA < (jE.length : Int)) = true:=decide_eq_true c15
        clear c15
        by_cases c16 : (rd jE qA) < 0
        ·rw [if_pos c16] at H
         have VP : decide ((rd jE qA) < 0) = true:=decide_eq_true c16
         clear c16
         simp only [Option.some.injEq,Prod.mk.injEq] at H
         obtain ⟨rfl,rfl⟩:=H
         have Je : 0 ≤ (qA : Int):=of_decide_eq_true (by first | (with_reducible assumption) | assumption)
         have Ji : qA < (jE.length : Int):=of_decide_eq_true (by first | (with_reducible assumption) | assumption)
         obtain ⟨aaH,V3,TL⟩:=Kd.tN (Kd.sV Iw.out).2.2 qA Je Ji
         cases V3
         replace Je:=eq_true Je
         replace Ji:=eq_true Ji
         go_wp2
         go_ret2
         exact ⟨by first | rfl | (simp [bZ,cO] <;> rfl) | (simp [*,bZ,cO] <;> rfl),by repeat (first | (with_reducible first | exact HB.out | apply ak | apply aj | apply ay | refine aN ?_ AO.out) | exact HB.out)⟩
        ·rw [if_neg c16] at H
         have VP : decide ((rd jE qA) < 0) = false:=decide_eq_false c16
         clear c16
         by_cases c17 : (rd jE qA) ≥ 16
         ·rw [if_pos c17] at H
          have aeR : decide (16 ≤ (rd jE qA)) = true:=decide_eq_true c17
          clear c17
          simp only [Option.some.injEq,Prod.mk.injEq] at H
          obtain ⟨rfl,rfl⟩:=H
          have Je : 0 ≤ (qA : Int):=of_decide_eq_true (by first | (with_reducible assumption) | assumption)
          have Ji : qA < (jE.length : Int):=of_decide_eq_true (by first | (with_reducible assumption) | assumption)
          obtain ⟨aaH,V3,TL⟩:=Kd.tN (Kd.sV Iw.out).2.2 qA Je Ji
          cases V3
          replace Je:=eq_true Je
          replace Ji:=eq_true Ji
          go_wp2
          go_ret2
          exact ⟨by first | rfl | (simp [bZ,cO] <;> rfl) | (simp [*,bZ,cO] <;> rfl),by repeat (first | (with_reducible first | exact HB.out | apply ak | apply aj | apply ay | refine aN ?_ AO.out) | exact HB.out)⟩
         ·rw [if_neg c17] at H
          have aeR : decide (16 ≤ (rd jE qA)) = false:=decide_eq_false c17
          clear c17
          replace H:=Option.bind_eq_some_iff.mp H
          obtain ⟨Dl,adT,H⟩:=H
          replace H : (if 2 + Dl.size ≤ 9223372036854775807 then (if JX.size + ((⟨#[32,114]⟩ : ByteArray) ++ Dl).size ≤ 9223372036854775807 then (bT.l0 k2 (JX ++ ((⟨#[32,114]⟩ : ByteArray) ++ Dl)) jE (jE.length : Int) (wrap64 (qA + 1))) else (none)) else (none)) = some (r1,r2):=H
          have A18:=ah.mk adT
          clear adT
          by_cases c19 : 2 + Dl.size ≤ 9223372036854775807
          ·rw [if_pos c19] at H
           have akh:=eq_true c19
           have aki : decide (2 + Dl.size ≤ 9223372036854775807) = true:=decide_eq_true c19
           try have akj : (9223372036854775807 < 2 + Dl.size) = False:=eq_false (Nat.not_lt.2 c19)
           by_cases c20 : JX.size + ((⟨#[32,114]⟩ : ByteArray) ++ Dl).size ≤ 9223372036854775807
           ·rw [if_pos c20] at H
            have akk:=eq_true c20
            have akl : decide (JX.size + ((⟨#[32,114]⟩ : ByteArray) ++ Dl).size ≤ 9223372036854775807) = true:=decide_eq_true c20
            try have akm : (9223372036854775807 < JX.size + ((⟨#[32,114]⟩ : ByteArray) ++ Dl).size) = False:=eq_false (Nat.not_lt.2 c20)
            have akn : (9223372036854775807 < JX.size + (2 + Dl.size)) = False:=eq_false (Nat.not_lt.2 (by have h_:=c20; simp only [ByteArray.size_append] at h_; exact h_))
            have H':=ah.mk H
            clear H
            have Je : 0 ≤ (qA : Int):=of_decide_eq_true (by first | (with_reducible assumption) | assumption)
            have Ji : qA < (jE.length : Int):=of_decide_eq_true (by first | (with_reducible assumption) | assumption)
            obtain ⟨aaH,V3,TL⟩:=Kd.tN (Kd.sV Iw.out).2.2 qA Je Ji
            cases V3
            replace Je:=eq_true Je
            replace Ji:=eq_true Ji
            go_wp2_with (first | ((with_reducible refine dn (f:=38) rfl ?_); refine goesL_ (some 35) rfl rfl Tryz.func38 (by kernel_rfl) rfl #[.int .i64 (rd jE qA)] rfl (by (try simp only [List.map_toArray,List.map_cons,List.map_nil]); first | done | rfl | (simp only [List.length_drop,List.length_take]; rfl)) ?_; (with_reducible refine (eG.calls (rd jE qA) Dl _ ?P7 A18.out).mono ?_); (case P7 => first | exact uP | exact uP.below (by repeat (first | (with_reducible first | exact HB.out | apply ak | apply aj | apply ay | refine aN ?_ AO.out) | exact HB.out))); rintro e w21 ⟨rfl,hb⟩; refine ⟨_,rfl,?_⟩; have n0_:=ah.mk (Kd.zQ (by (with_reducible repeat (first | apply Kd.uI | apply Kd.tC | apply Kd.wL)); exact Iw.out) hb); have n1_:=ah.mk (bU (g:=uO) (o:=.cells #[.bool gy,.int .i64 gB,.int .i64 gG,.int .i64 gI] 46 (0,0)) (by (with_reducible repeat (first | refine aG ?_ _ | refine aQ ?_ | refine aC ?_ _)); exact iJ.out) hb); have n2_:=ah.mk (bP (by repeat (first | (with_reducible first | exact HB.out | apply ak | apply aj | apply ay | refine aN ?_ AO.out) | exact HB.out)) hb); clear Iw; clear iJ; clear HB; have Iw:=n0_; have iJ:=n1_; have HB:=n2_; clear n0_ n1_ n2_; (try clear hb); (try clear hb2); (try clear hk); (try clear hi)))
            go_roundg k2
            case measure => have:=Uj.out; have:=FC.out; omega
            case rel => exact ⟨(JX ++ ((⟨#[32,114]⟩ : ByteArray) ++ Dl)),(wrap64 (qA + 1)),(by first | rfl | (simp; done) | (simp [*]; done)),(by first | rfl | (simp; done) | (simp [*]; done)),H',⟨by have:=Uj.out; have:=FC.out; omega⟩,⟨by (with_reducible repeat (first | apply Kd.uI | apply Kd.tC | apply Kd.wL)); exact Iw.out⟩,⟨by (with_reducible repeat (first | refine aG ?_ _ | refine aQ ?_ | refine aC ?_ _)); exact iJ.out⟩,⟨by repeat (first | (with_reducible first | exact HB.out | apply ak | apply aj | apply ay | refine aN ?_ AO.out) | exact HB.out)⟩⟩
           ·rw [if_neg c20] at H
            exact absurd H (by simp)
          ·rw [if_neg c19] at H
           exact absurd H (by simp)
       ·rw [if_neg c15] at H
        exact absurd H (by simp)
      ·rw [if_neg c14] at H
       exact absurd H (by simp)
     ·rw [if_neg c13] at H
      have aeO : decide (qA < (jE.length : Int)) = false:=decide_eq_false c13
      clear c13
      simp only [Option.some.injEq,Prod.mk.injEq] at H
      obtain ⟨rfl,rfl⟩:=H
      go_wp2
      go_ret2
      exact ⟨by first | rfl | (simp [bZ,cO] <;> rfl) | (simp [*,bZ,cO] <;> rfl),by repeat (first | (with_reducible first | exact HB.out | apply ak | apply aj | apply ay | refine aN ?_ AO.out) | exact HB.out)⟩
end Go.Proofs.YtdbpglhdicmhhaaGreatDoor.GA
end
