import Derived.Test.YtdbpglhdicmhhaaGreatDoorMPr4
import Derived.Test.YtdbpglhdicmhhaaGreatDoorMPr34
import Derived.Test.YtdbpglhdicmhhaaGreatDoorMPr18
import Derived.Test.YtdbpglhdicmhhaaGreatDoorMPr37
import Derived.Test.YtdbpglhdicmhhaaGreatDoorMPr20
import Derived.Test.YtdbpglhdicmhhaaGreatDoorMPr22
set_option maxHeartbeats 8000000
set_option maxRecDepth 100000
set_option linter.unusedVariables false
set_option linter.unusedSimpArgs false
section
namespace Go.Proofs.YtdbpglhdicmhhaaGreatDoor.GA
open Go.RowKit Go.Proofs.YtdbpglhdicmhhaaGreatDoorW.aI Go.Proofs.YtdbpglhdicmhhaaGreatDoorW.aX Go.Proofs.YtdbpglhdicmhhaaGreatDoorW.aZ
def Vk.f : Option Bool:=some true
end Go.Proofs.YtdbpglhdicmhhaaGreatDoor.GA
end

section
namespace Go.Proofs.YtdbpglhdicmhhaaGreatDoor.GA
open Go.RowKit Go.Proofs.YtdbpglhdicmhhaaGreatDoorW.aI Go.Proofs.YtdbpglhdicmhhaaGreatDoorW.aX Go.Proofs.YtdbpglhdicmhhaaGreatDoorW.aZ
end Go.Proofs.YtdbpglhdicmhhaaGreatDoor.GA
end

section
namespace Go.Proofs.YtdbpglhdicmhhaaGreatDoor.Q
open Go.RowKit Go.Lib Go.Proofs.YtdbpglhdicmhhaaGreatDoor.GA Go.Proofs.YtdbpglhdicmhhaaGreatDoor.rQ Go.Proofs.YtdbpglhdicmhhaaGreatDoorW.aI Go.Proofs.YtdbpglhdicmhhaaGreatDoorW.aX Go.Proofs.YtdbpglhdicmhhaaGreatDoorW.aZ
theorem D6 (w : Int) (h0 : 0 ≤ w) (h1 : w < 4294967296) : dJ.f w = dQ.f w:=by
 unfold dJ.f Qs.YN
 rw [if_pos ⟨h0,h1⟩]
 rcases Xh (w / 16777216) with ⟨j,hj,ho⟩ | hn
 ·rw [CG j hj w h0 h1 ho,ho,JD j hj]
  obtain ⟨_,_,s0,s1⟩:=Lc hj
  generalize (dH.rowAt j).2.1 = s at *
  have a0 : 0 ≤ dA w ∧ dA w < 16:=by unfold dA; omega
  have b0 : 0 ≤ dB w ∧ dB w < 16:=by unfold dB; omega
  have m0 : 0 ≤ w % 65536 ∧ w % 65536 < 65536 ∧ 0 ≤ w % 16 ∧ w % 16 < 16 ∧ (w % 65536) % 16 = w % 16:=by omega
  simp only [Option.bind_some,if_true,Wj]
  rw [show w / 1048576 % 16 = dA w from rfl,show w / 65536 % 16 = dB w from rfl]
  have hs : s = 0 ∨ s = 1 ∨ s = 2 ∨ s = 3 ∨ s = 4 ∨ s = 5 ∨ s = 6:=by omega
  clear ho
  rcases hs with rfl | rfl | rfl | rfl | rfl | rfl | rfl
  all_goals
   simp only [Qs.fields,Qs.bad,Qs.ji,dC,dM,rQ.jA,rQ.reg]
   simp
   generalize dA w = a at *
   generalize dB w = b at *
   generalize w % 16 = c at *
   generalize w % 65536 = m at *
   repeat' split
   all_goals first | rfl | omega | (simp; omega)
 ·rw [BP w h0 h1 hn,Rz _ hn]
  simp
theorem DU {n : Int} (h : uZ n) (j : Nat) (hj : 8 ≤ j) : aJ.f j n = some (bs (itoa n)):=up (fun k => aJ.mono n k) (SQ n h.1 h.2).1 j hj
theorem afo (k : Nat) (x : List UInt8) (jC : Bool) (o a b c m : Int) (hx : x.length ≤ 1000) (hm : uZ m) : aH.j4 (k + 10) (bs x) jC o a b c m = some (bs (x ++ FY jC o m),0):=by
 have hp:=Jg o
 have hi:=jL hm
 rw [aH.j4]
 cases jC with
 | false => rw [if_neg (by simp)]; unfold FY; simp
 | true =>
  rw [if_pos rfl,eX,if_pos (by omega),Ot (k + 7) o]
  simp only [Option.bind_some]
  rw [show (⟨#[32]⟩ : ByteArray) = bs [32] from rfl,iD,eX,eX,if_pos (by simp only [List.length_append,List.length_cons,List.length_nil]; omega),DU hm (k + 9) (by omega)]
  simp only [Option.bind_some]
  rw [iD,eX,eX,if_pos (by simp only [List.length_append,List.length_cons,List.length_nil]; omega),iD]
  simp only [FY,if_true,List.append_assoc]
theorem afn (k : Nat) (x : ByteArray) (low high o a b c m : Int) : aH.j3 (k + 11) x low high o a b c m = aH.j4 (k + 10) x (low != 0 || high != 0) o a b c m:=by
 rw [aH.j3]
 by_cases h : low = 0
 ·rw [if_pos h,h]; simp
 ·rw [if_neg h,show (low != 0) = true from bne_iff_ne.mpr h]; rfl
theorem Rq (k : Nat) {α : Type} (x : List UInt8) (n : Int) (hx : x.length ≤ 1000) (hn : uZ n) (hk : 8 ≤ k) (F : ByteArray → Option α) :
  (if (bs x).size + 2 ≤ 9223372036854775807 then ((aJ.f k n).bind fun t => (if (bs x ++ (⟨#[32,114]⟩ : ByteArray)).size + t.size ≤ 9223372036854775807 then F ((bs x ++ (⟨#[32,114]⟩ : ByteArray)) ++ t) else none)) else none) = F (bs (x ++ tu n)):=by
 have hi:=jL hn
 rw [eX,if_pos (by omega),DU hn k hk]
 simp only [Option.bind_some]
 rw [show (⟨#[32,114]⟩ : ByteArray) = bs [32,114] from rfl,iD,eX,eX,if_pos (by simp only [List.length_append,List.length_cons,List.length_nil]; omega),iD]
 simp only [tu,List.append_assoc]
theorem Jt {n : Int} (h : uZ n) : (tu n).length ≤ 10:=by
 have:=jL h
 unfold tu
 simp only [List.length_append,List.length_cons,List.length_nil]; omega
theorem Xv {l0 : List Int} {l1 : List jw} {l2 : List qB} {i : Nat} {w : Int} (hw : l0[i]? = some w) (h0 : 0 ≤ w) (h1 : w < 4294967296) {k : Nat} (hk : k < 58) {a b c m : Int} (hd : dQ.f w = some ((k : Int) + 1,a,b,c,m,0)) (ha : uZ a) (hb : uZ b) (hc : uZ c) (hm : uZ m) :
  aH.f 20 l0 l1 l2 (i : Int) = some (bs (Jc k a b c m),0):=by
 have hil : i < l0.length:=(List.getElem?_eq_some_iff.1 hw).1
 have e : rd l0 (i : Int) = w:=by unfold rd; rw [Int.toNat_natCast,List.getD_eq_getElem?_getD,hw]; rfl
 have hnm : jm.f ((k : Int) + 1) = some ((dH.rowAt k).1,0):=by unfold jm.f; rw [JD k hk]; rfl
 have hsh : iC.f ((k : Int) + 1) = some ((dH.rowAt k).2.1,0):=by unfold iC.f; rw [JD k hk]; rfl
 have hln:=DX hk
 have la:=Jt ha
 have lb:=Jt hb
 have lc:=Jt hc
 obtain ⟨_,_,s0,s1⟩:=Lc hk
 unfold aH.f
 rw [if_neg (by omega),show decide ((i : Int) ≥ (l0.length : Int)) = false from decide_eq_false (by omega),aH.j0,if_neg (by simp),if_pos (by omega),if_pos (by omega),e,D6 w h0 h1,hd]
 simp only [Option.bind_some,if_true]
 rw [hnm]
 simp only [Option.bind_some]
 rw [hsh]
 simp only [Option.bind_some]
 rw [Wj]
 simp only [Option.bind_some]
 unfold Jc
 rw [VN (dH.rowAt k).1]
 simp only [wV]
 generalize (dH.rowAt k).1.data.toList = nm at hln ⊢
 generalize (dH.rowAt k).2.1 = s at s0 s1 ⊢
 have hs : s = 0 ∨ s = 1 ∨ s = 2 ∨ s = 3 ∨ s = 4 ∨ s = 5 ∨ s = 6:=by omega
 have L1 : (nm ++ tu a).length ≤ 1000:=by rw [List.length_append]; omega
 have L2 : (nm ++ tu a ++ tu b).length ≤ 1000:=by rw [List.length_append,List.length_append]; omega
 have L3 : (nm ++ tu a ++ tu b ++ tu c).length ≤ 1000:=by rw [List.length_append,List.length_append,List.length_append]; omega
 have J1 : ∀ (x : List UInt8) (bb cc : Bool) (low high : Int),x.length ≤ 900 → aH.j1 19 (bs x) bb cc low high ((k : Int) + 1) a b c m = aH.j2 18 (bs (x ++ (if bb then tu b else []))) cc low high ((k : Int) + 1) a b c m:=by
  intro x bb cc low high hx
  rw [aH.j1]
  cases bb with
  | true => rw [if_pos rfl]; exact Rq 18 x b (by omega) hb (by omega) (fun t => aH.j2 18 t cc low high ((k : Int) + 1) a b c m)
  | false => rw [if_neg (by simp)]; simp
 have J2 : ∀ (x : List UInt8) (cc : Bool) (low high : Int),x.length ≤ 950 → aH.j2 18 (bs x) cc low high ((k : Int) + 1) a b c m = aH.j3 17 (bs (x ++ (if cc then tu c else []))) low high ((k : Int) + 1) a b c m:=by
  intro x cc low high hx
  rw [aH.j2]
  cases cc with
  | true => rw [if_pos rfl]; exact Rq 17 x c (by omega) hc (by omega) (fun t => aH.j3 17 t low high ((k : Int) + 1) a b c m)
  | false => rw [if_neg (by simp)]; simp
 have J0 : ∀ (aa bb cc : Bool) (low high : Int),(if aa = true then (if (bs nm).size + 2 ≤ 9223372036854775807 then ((aJ.f 19 a).bind fun afK => (if (bs nm ++ (⟨#[32,114]⟩ : ByteArray)).size + afK.size ≤ 9223372036854775807 then (aH.j1 19 ((bs nm ++ (⟨#[32,114]⟩ : ByteArray)) ++ afK) bb cc low high ((k : Int) + 1) a b c m) else none)) else none) else (aH.j1 19 (bs nm) bb cc low high ((k : Int) + 1) a b c m)) =
   some (bs (nm ++ (if aa then tu a else []) ++ (if bb then tu b else []) ++ (if cc then tu c else []) ++ FY (low != 0 || high != 0) ((k : Int) + 1) m),0):=by
  intro aa bb cc low high
  have fin : ∀ x : List UInt8,x.length ≤ 200 → aH.j1 19 (bs x) bb cc low high ((k : Int) + 1) a b c m = some (bs (x ++ (if bb then tu b else []) ++ (if cc then tu c else []) ++ FY (low != 0 || high != 0) ((k : Int) + 1) m),0):=by
   intro x hx
   have hb2 : (if bb then tu b else []).length ≤ 10:=by
    split
    ·exact lb
    ·exact Nat.zero_le _
   have hc2 : (if cc then tu c else []).length ≤ 10:=by
    split
    ·exact lc
    ·exact Nat.zero_le _
   rw [J1 x bb cc low high (by omega),J2 _ cc low high (by rw [List.length_append]; omega),afn 6,afo 6 _ _ _ _ _ _ _ (by rw [List.length_append,List.length_append]; omega) hm]
  cases aa with
  | true =>
   rw [if_pos rfl]
   refine (Rq 19 nm a (by omega) ha (by omega) (fun t => aH.j1 19 t bb cc low high ((k : Int) + 1) a b c m)).trans ?_
   rw [fin _ (by rw [List.length_append]; omega)]
   rfl
  | false =>
   rw [if_neg (by simp),fin nm (by omega)]
   simp
 refine (J0 _ _ _ _ _).trans ?_
 congr 2
 rcases hs with rfl | rfl | rfl | rfl | rfl | rfl | rfl
 all_goals simp [FY,List.flatMap]
theorem Z4 {l0 : List Int} {l1 : List jw} {l2 : List qB} {i : Int} (h : i < 0 ∨ (l0.length : Int) ≤ i) : aH.f 20 l0 l1 l2 i = some (⟨#[]⟩,1):=by
 unfold aH.f
 by_cases h0 : i < 0
 ·rw [if_pos h0,aH.j0,if_pos rfl]
 ·rw [if_neg h0,show decide (i ≥ (l0.length : Int)) = true from decide_eq_true (by omega),aH.j0,if_pos rfl]
theorem ZY {l0 : List Int} {l1 : List jw} {l2 : List qB} {i : Nat} {w : Int} (hw : l0[i]? = some w) (h0 : 0 ≤ w) (h1 : w < 4294967296) {o a b c m e : Int} (hd : dQ.f w = some (o,a,b,c,m,e)) (he : e ≠ 0) : aH.f 20 l0 l1 l2 (i : Int) = some (⟨#[]⟩,e):=by
 have hil : i < l0.length:=(List.getElem?_eq_some_iff.1 hw).1
 have e1 : rd l0 (i : Int) = w:=by unfold rd; rw [Int.toNat_natCast,List.getD_eq_getElem?_getD,hw]; rfl
 unfold aH.f
 rw [if_neg (by omega),show decide ((i : Int) ≥ (l0.length : Int)) = false from decide_eq_false (by omega),aH.j0,if_neg (by simp),if_pos (by omega),if_pos (by omega),e1,D6 w h0 h1,hd]
 simp only [Option.bind_some]
 rw [if_neg he]
theorem QW {l0 : List Int} {l1 : List jw} {l2 : List qB} (hw : ∀ x ∈ l0,0 ≤ x ∧ x < 4294967296) (i : Int) : ∃ r,aY.f 8 l0 l1 l2 i = some r ∧ aH.f 20 l0 l1 l2 i = some r:=by
 by_cases h : i < 0 ∨ (l0.length : Int) ≤ i
 ·exact ⟨_,Xu h,Z4 h⟩
 ·obtain ⟨n,rfl⟩ : ∃ n : Nat,i = (n : Int):=⟨i.toNat,by omega⟩
  obtain ⟨w,hn⟩ : ∃ w,l0[n]? = some w:=⟨_,List.getElem?_eq_getElem (by omega)⟩
  obtain ⟨h0,h1⟩:=hw w (List.mem_of_getElem? hn)
  rcases wW w h0 h1 with ⟨k,a,b,c,m,hk,hd,fa,fb,fc,fm⟩ | ⟨o,a,b,c,m,e,hd,he⟩
  ·exact ⟨_,Kt hn hk hd fa fb fc fm,Xv hn h0 h1 hk hd fa fb fc fm⟩
  ·exact ⟨_,Xt hn hd he,ZY hn h0 h1 hd he⟩
end Go.Proofs.YtdbpglhdicmhhaaGreatDoor.Q
end

section
namespace Go.Proofs.YtdbpglhdicmhhaaGreatDoor.GA
open Go.RowKit Go.Proofs.YtdbpglhdicmhhaaGreatDoorW.aI Go.Proofs.YtdbpglhdicmhhaaGreatDoorW.aX Go.Proofs.YtdbpglhdicmhhaaGreatDoorW.aZ
def iO.f (a0 : Int) : Option (Bool):=if a0 ≥ 0 then (some (decide (a0 ≤ 15))) else (some false)
theorem iO.calls (a0 : Int) (r : Bool) (w : World) (h : iO.f a0 = some r) :
  Calls Tryz.prog 87 #[.int .i64 a0] w fun e w' => e = .returned (.bool r) ∧ aV w w':=by
 have H : (if a0 ≥ 0 then (some (decide (a0 ≤ 15))) else (some false)) = some r:=h
 clear h
 by_cases c2 : a0 ≥ 0
 ·rw [if_pos c2] at H
  have DT : decide (0 ≤ a0) = true:=decide_eq_true c2
  clear c2
  obtain rfl:=Option.some.inj H
  go_enter Tryz.func87,Tryz.ntmps87
  go_wp2
  go_ret
  exact ⟨by first | rfl | (simp; done) | (simp [*]; done),by repeat (first | exact aV.refl _ | apply aV.step)⟩
 ·rw [if_neg c2] at H
  have DT : decide (0 ≤ a0) = false:=decide_eq_false c2
  clear c2
  obtain rfl:=Option.some.inj H
  go_enter Tryz.func87,Tryz.ntmps87
  go_wp2
  go_ret
  exact ⟨by first | rfl | (simp; done) | (simp [*]; done),by repeat (first | exact aV.refl _ | apply aV.step)⟩
end Go.Proofs.YtdbpglhdicmhhaaGreatDoor.GA
end

section
namespace Go.Proofs.YtdbpglhdicmhhaaGreatDoor.Q
open Go.RowKit Go.Lib Go.Proofs.YtdbpglhdicmhhaaGreatDoor.GA Go.Proofs.YtdbpglhdicmhhaaGreatDoorW.aI Go.Proofs.YtdbpglhdicmhhaaGreatDoorW.aX Go.Proofs.YtdbpglhdicmhhaaGreatDoorW.aZ
theorem Ld (u : Nat) (h : u ≤ 8796093022208) : aJ.f 17 (u : Int) = some (bs (itoa (u : Int))):=by
 rw [itoa_nonneg]
 exact (Hr 16 u (by omega) (by omega)).1
theorem CX (n : Int) : iO.f n = some (vH n):=by
 unfold iO.f vH
 by_cases h : n ≥ 0
 ·rw [if_pos h,decide_eq_true (show 0 ≤ n from h),Bool.true_and]
  congr 1
  exact decide_eq_decide.2 (by omega)
 ·rw [if_neg h,decide_eq_false (show ¬ 0 ≤ n from h),Bool.false_and]
theorem NP {w : Int} (h0 : 0 ≤ w) (h1 : w < 4294967296) : dJ.f w = some (su w):=by rw [D6 w h0 h1]; exact Hq h0 h1
def okW (nf nt : Nat) (b e w : Int) : Bool:=decide (rV w ≠ 0) || fitsV nf nt b e w
def xq (l0 : List Int) (l1 : List jw) (nt : Nat) (f : jw) : Bool:=(wordsOf l0 f).all (okW l1.length nt f.f0 f.f1)
def jA (l0 : List Int) (l1 : List jw) (l2 : List qB) : Bool:=gX l0 l1 && qX l2 && l1.all (xq l0 l1 l2.length)
def errs : List Int → Int
 | [] => 0
 | w :: r => if rV w = 0 then errs r else rV w
def hit (y w : Int) : Bool:=decide (rV w = 0) && decide (iQ (AZ w) = [76]) && decide (y = uz w)
def JV (l0 : List Int) (y : Int) : Bool:=l0.any (hit y)
def Kq (l0 : List Int) (f : jw) (at_ : Int) : Bool:=(wordsOf l0 f).any fun w => decide (iQ (AZ w) = [76]) && decide (uz w = at_)
theorem En : ∀ (a b : List Int),errs (a ++ b) = if errs a = 0 then errs b else errs a
 | [],b => by simp [errs]
 | w :: r,b => by
  rw [List.cons_append,errs,errs]
  by_cases h : rV w = 0
  ·rw [if_pos h,if_pos h,En r b]
  ·rw [if_neg h,if_neg h,if_neg h]
theorem FW : ∀ (r : List Int),errs r = 0 → ∀ w ∈ r,rV w = 0
 | [],_,w,hw => by cases hw
 | x :: r,h,w,hw => by
  rw [errs] at h
  by_cases hx : rV x = 0
  ·rw [if_pos hx] at h
   rcases List.mem_cons.1 hw with rfl | hw
   ·exact hx
   ·exact FW r h w hw
  ·rw [if_neg hx] at h; exact absurd h hx
theorem Gh {nf nt : Nat} {b e : Int} : ∀ (r : List Int) (bad : Int) (tg : Int → Bool),(∀ w ∈ r,okW nf nt b e w = true) → jv nf nt b e r bad tg = some (if bad = 0 then errs r else bad,fun y => r.any (hit y) || tg y)
 | [],bad,tg,h => by
  rw [jv,errs]
  congr 1
  refine Prod.ext ?_ rfl
  show bad = if bad = 0 then 0 else bad
  split <;> simp [*]
 | w :: r,bad,tg,h => by
  have hr:=fun x hx => h x (List.mem_cons_of_mem _ hx)
  have hw:=h w List.mem_cons_self
  rw [jv]
  by_cases he : rV w = 0
  ·have hf : fitsV nf nt b e w = true:=by unfold okW at hw; rw [decide_eq_false (fun x => x he),Bool.false_or] at hw; exact hw
   rw [if_neg (fun x => x he),if_pos hf,Gh r _ _ hr,errs,if_pos he]
   congr 1
   refine Prod.ext rfl (funext fun y => ?_)
   show (r.any (hit y) || _) = ((w :: r).any (hit y) || tg y)
   rw [List.any_cons]
   by_cases hp : iQ (AZ w) = [76]
   ·rw [if_pos hp]
    unfold hit
    rw [decide_eq_true he,decide_eq_true hp,Bool.true_and,Bool.true_and,← Bool.or_assoc,Bool.or_comm (r.any _)]
   ·rw [if_neg hp]
    have : hit y w = false:=by unfold hit; rw [decide_eq_false hp]; simp
    rw [this,Bool.false_or]
  ·rw [if_pos he,Gh r _ _ hr,errs,if_neg he]
   congr 1
   refine Prod.ext ?_ (funext fun y => ?_)
   ·show (if (if bad = 0 then rV w else bad) = 0 then errs r else (if bad = 0 then rV w else bad)) = _
    by_cases hb : bad = 0
    ·rw [if_pos hb,if_neg he]
    ·rw [if_neg hb,if_neg hb]
   ·show (r.any (hit y) || _) = ((w :: r).any (hit y) || tg y)
    rw [List.any_cons]
    have : hit y w = false:=by unfold hit; rw [decide_eq_false he]; simp
    rw [this,Bool.false_or]
theorem D7 {nf nt : Nat} {b e : Int} : ∀ (r : List Int) (bad : Int) (tg : Int → Bool),(∃ w ∈ r,okW nf nt b e w = false) → jv nf nt b e r bad tg = none
 | [],bad,tg,⟨w,hw,_⟩ => by cases hw
 | x :: r,bad,tg,⟨w,hw,ho⟩ => by
  rw [jv]
  by_cases he : rV x = 0
  ·rw [if_neg (fun y => y he)]
   by_cases hf : fitsV nf nt b e x = true
   ·rw [if_pos hf]
    rcases List.mem_cons.1 hw with rfl | hw
    ·unfold okW at ho; rw [hf,Bool.or_true] at ho; cases ho
    ·exact D7 r _ _ ⟨w,hw,ho⟩
   ·rw [if_neg hf]
  ·rw [if_pos he]
   rcases List.mem_cons.1 hw with rfl | hw
   ·unfold okW at ho; rw [decide_eq_true he,Bool.true_or] at ho; cases ho
   ·exact D7 r _ _ ⟨w,hw,ho⟩
theorem KI {l0 : List Int} {nf nt : Nat} : ∀ (r : List jw) (bad : Int) (tg : Int → Bool),(∀ f ∈ r,∀ w ∈ wordsOf l0 f,okW nf nt f.f0 f.f1 w = true) → um l0 nf nt r bad tg = some (if bad = 0 then errs (r.flatMap (wordsOf l0)) else bad,fun y => (r.flatMap (wordsOf l0)).any (hit y) || tg y)
 | [],bad,tg,h => by
  rw [um,List.flatMap_nil,errs]
  congr 1
  refine Prod.ext ?_ rfl
  show bad = if bad = 0 then 0 else bad
  split <;> simp [*]
 | f :: r,bad,tg,h => by
  rw [um,Gh _ _ _ (h f List.mem_cons_self),Option.bind_some,KI r _ _ (fun g hg => h g (List.mem_cons_of_mem _ hg)),List.flatMap_cons,En]
  congr 1
  refine Prod.ext ?_ (funext fun y => ?_)
  ·show (if (if bad = 0 then errs (wordsOf l0 f) else bad) = 0 then _ else (if bad = 0 then errs (wordsOf l0 f) else bad)) = _
   by_cases hb : bad = 0
   ·rw [if_pos hb,if_pos hb]
   ·rw [if_neg hb,if_neg hb,if_neg hb]
  ·show (_ || (_ || tg y)) = (_ || tg y)
   rw [List.any_append,← Bool.or_assoc,Bool.or_comm (List.any (List.flatMap _ r) _)]
theorem Jw {l0 : List Int} {nf nt : Nat} : ∀ (r : List jw) (bad : Int) (tg : Int → Bool),(∃ f ∈ r,∃ w ∈ wordsOf l0 f,okW nf nt f.f0 f.f1 w = false) → um l0 nf nt r bad tg = none
 | [],bad,tg,⟨f,hf,_⟩ => by cases hf
 | g :: r,bad,tg,⟨f,hf,w,hw,ho⟩ => by
  rw [um]
  rcases List.mem_cons.1 hf with rfl | hf
  ·rw [D7 _ _ _ ⟨w,hw,ho⟩]; rfl
  ·cases jv nf nt g.f0 g.f1 (wordsOf l0 g) bad tg with
   | none => rfl
   | some x => exact Jw r _ _ ⟨f,hf,w,hw,ho⟩
theorem xR {n at_ : Int} {f : jw} {r : List jw} (h : dG n at_ (f :: r) = true) : f.f0 = at_ ∧ at_ < f.f1 ∧ f.f1 ≤ n ∧ dG n f.f1 r = true:=by
 rw [dG] at h
 simp only [Bool.and_eq_true,decide_eq_true_eq] at h
 exact ⟨h.1.1.1,h.1.1.2,h.1.2,h.2⟩
theorem DY (l0 : List Int) : ∀ (r : List jw) (at_ : Int),0 ≤ at_ → dG l0.length at_ r = true → r.flatMap (wordsOf l0) = l0.drop at_.toNat
 | [],at_,h0,h => by
  rw [dG,decide_eq_true_eq] at h
  rw [List.flatMap_nil,h,Int.toNat_natCast,List.drop_length]
 | f :: r,at_,h0,h => by
  obtain ⟨h1,h2,h3,h4⟩:=xR h
  rw [List.flatMap_cons,DY l0 r f.f1 (by omega) h4]
  unfold wordsOf
  rw [h1,show f.f1.toNat = at_.toNat + (f.f1 - at_).toNat by omega,← List.drop_drop,List.take_append_drop]
theorem Jf (n : Int) : ∀ (r : List jw) (at_ : Int),dG n at_ r = true → ∀ f ∈ r,at_ ≤ f.f0 ∧ f.f0 < f.f1 ∧ f.f1 ≤ n
 | [],_,_,f,hf => by cases hf
 | g :: r,at_,h,f,hf => by
  obtain ⟨h1,h2,h3,h4⟩:=xR h
  rcases List.mem_cons.1 hf with rfl | hf
  ·omega
  ·have:=Jf n r _ h4 f hf; omega
theorem Ky (n : Int) : ∀ (r : List jw) (at_ : Int),dG n at_ r = true → ∀ f ∈ r,∀ g ∈ r,∀ x : Int,f.f0 ≤ x → x < f.f1 → g.f0 ≤ x → x < g.f1 → f = g
 | [],_,_,f,hf,_,_,_,_,_,_,_ => by cases hf
 | a :: r,at_,h,f,hf,g,hg,x,a1,a2,a3,a4 => by
  obtain ⟨h1,h2,h3,h4⟩:=xR h
  rcases List.mem_cons.1 hf with rfl | hf'
  ·rcases List.mem_cons.1 hg with rfl | hg'
   ·rfl
   ·have:=Jf n r _ h4 g hg'; omega
  ·rcases List.mem_cons.1 hg with rfl | hg'
   ·have:=Jf n r _ h4 f hf'; omega
   ·exact Ky n r _ h4 f hf' g hg' x a1 a2 a3 a4
theorem Cc {l0 : List Int} {l1 : List jw} (h : gX l0 l1 = true) : dG l0.length 0 l1 = true:=by unfold gX at h; rw [Bool.and_eq_true] at h; exact h.1
theorem YX {l0 : List Int} {l1 : List jw} {nt : Nat} (hp : gX l0 l1 = true) (ho : ∀ f ∈ l1,∀ w ∈ wordsOf l0 f,okW l1.length nt f.f0 f.f1 w = true) (he : errs l0 = 0) {f : jw} (hf : f ∈ l1) {at_ : Int} (h0 : f.f0 ≤ at_) (h1 : at_ < f.f1) : Kq l0 f at_ = JV l0 at_:=by
 have hfl:=DY l0 l1 0 (Int.le_refl _) (Cc hp)
 rw [Int.toNat_zero,List.drop_zero] at hfl
 have hz:=FW l0 he
 rw [Bool.eq_iff_iff]
 unfold Kq JV
 rw [List.any_eq_true,List.any_eq_true]
 constructor
 ·rintro ⟨w,hw,hx⟩
  have hm : w ∈ l0:=by rw [← hfl]; exact List.mem_flatMap.2 ⟨f,hf,hw⟩
  simp only [Bool.and_eq_true,decide_eq_true_eq] at hx
  refine ⟨w,hm,?_⟩
  unfold hit
  rw [decide_eq_true (hz w hm),decide_eq_true hx.1,decide_eq_true hx.2.symm]; rfl
 ·rintro ⟨w,hm,hx⟩
  unfold hit at hx
  simp only [Bool.and_eq_true,decide_eq_true_eq] at hx
  obtain ⟨⟨x1,x2⟩,x3⟩:=hx
  have hm2 : w ∈ l1.flatMap (wordsOf l0):=by rw [hfl]; exact hm
  obtain ⟨g,hg,hw⟩:=List.mem_flatMap.1 hm2
  have hk:=ho g hg w hw
  unfold okW at hk
  rw [decide_eq_false (fun x => x x1),Bool.false_or] at hk
  unfold fitsV at hk
  rw [if_pos x2] at hk
  simp only [Bool.and_eq_true,decide_eq_true_eq] at hk
  obtain rfl:=Ky _ _ _ (Cc hp) f hf g hg at_ h0 h1 (by omega) (by omega)
  exact ⟨w,hw,by rw [decide_eq_true x2,decide_eq_true x3.symm]; rfl⟩
theorem XE {l0 : List Int} {l1 : List jw} {l2 : List qB} (h : jA l0 l1 l2 = true) : wF l0 l1 l2 = if errs l0 ≠ 0 then ([],errs l0) else if 262144 < (ig 0 l2 ++ gq (JV l0) l0 0 l1).length then ([],75) else (ig 0 l2 ++ gq (JV l0) l0 0 l1,0):=by
 unfold jA at h
 simp only [Bool.and_eq_true] at h
 obtain ⟨⟨h1,h2⟩,h3⟩:=h
 have hfl:=DY l0 l1 0 (Int.le_refl _) (Cc h1)
 rw [Int.toNat_zero,List.drop_zero] at hfl
 have ho : ∀ f ∈ l1,∀ w ∈ wordsOf l0 f,okW l1.length l2.length f.f0 f.f1 w = true:=fun f hf w hw => List.all_eq_true.1 (show xq l0 l1 l2.length f = true from List.all_eq_true.1 h3 f hf) w hw
 rw [ER h1 h2,KI _ _ _ ho,hfl,if_pos rfl]
 have ht : (fun y => l0.any (hit y) || false) = JV l0:=funext fun y => Bool.or_false _
 dsimp only
 rw [ht]
theorem U2 {l0 : List Int} {l1 : List jw} {l2 : List qB} (h : jA l0 l1 l2 = false) : wF l0 l1 l2 = ([],1):=by
 unfold jA at h
 by_cases hp : (gX l0 l1 && qX l2) = true
 ·rw [hp,Bool.true_and,List.all_eq_false] at h
  obtain ⟨f,hf,hx⟩:=h
  unfold xq at hx
  rw [Bool.not_eq_true,List.all_eq_false] at hx
  obtain ⟨w,hw,hx⟩:=hx
  rw [Bool.and_eq_true] at hp
  exact KD hp.1 hp.2 (Jw _ _ _ ⟨f,hf,w,hw,by simpa using hx⟩)
 ·unfold wF
  rw [if_pos (by simpa using hp)]
end Go.Proofs.YtdbpglhdicmhhaaGreatDoor.Q
end
