import Derived.Test.YtdbpglhdicmhhaaGreatDoorMPr20
import Derived.Test.YtdbpglhdicmhhaaGreatDoorMPr12
import Derived.IntWalk
set_option maxHeartbeats 4000000
set_option maxRecDepth 100000
set_option linter.unusedVariables false
set_option linter.unusedSimpArgs false
section
namespace Go.Proofs.YtdbpglhdicmhhaaGreatDoor.Q
open Go.RowKit Go.Lib Go.Proofs.YtdbpglhdicmhhaaGreatDoor.GA Go.Proofs.YtdbpglhdicmhhaaGreatDoorW.aI Go.Proofs.YtdbpglhdicmhhaaGreatDoorW.aX Go.Proofs.YtdbpglhdicmhhaaGreatDoorW.aZ
def vH (n : Int) : Bool:=decide (0 ≤ n) && decide (n < 16)
def rU (c : JG) : Bool:=vH c.f1 && vH c.f2 && (c.f0 || vH c.f3)
def OE (c : JG) : List Int:=if c.f0 then [c.f1,c.f2] else [c.f1,c.f2,c.f3]
def AU (c : JG) : List UInt8:=(if c.f0 then [115,101,110,100] else [114,101,99,118]) ++ (OE c).flatMap tu
def qU (l : List JG) : List UInt8:=l.flatMap fun c => AU c ++ [10]
def X6 (i : Nat) (t : qB) : List UInt8:=[116,97,98,108,101,32,116] ++ itoa i ++ (if t.f1 then [32,100,101,102,97,117,108,116] else []) ++ [10] ++ qU t.f0
def ig : Nat → List qB → List UInt8
 | _,[] => []
 | i,t :: r => X6 i t ++ ig (i + 1) r
def qX (l : List qB) : Bool:=l.all fun t => t.f0.all rU
def su (w : Int) : Int × Int × Int × Int × Int × Int:=(dQ.f w).getD (0,0,0,0,0,0)
def AZ (w : Int) : Int:=(su w).1
def uz (w : Int) : Int:=(su w).2.2.2.2.1
def rV (w : Int) : Int:=(su w).2.2.2.2.2
def sZ (w : Int) : List UInt8:=Jc (AZ w - 1).toNat (su w).2.1 (su w).2.2.1 (su w).2.2.2.1 (uz w)
def fitsV (nf nt : Nat) (b e w : Int) : Bool :=
 if iQ (AZ w) = [76] then decide (b ≤ uz w) && decide (uz w < e) else if iQ (AZ w) = [102] then decide (uz w < nf) else if iQ (AZ w) = [116] then decide (uz w < nt) else true
def jv (nf nt : Nat) (b e : Int) : List Int → Int → (Int → Bool) → Option (Int × (Int → Bool))
 | [],bad,tg => some (bad,tg)
 | w :: r,bad,tg => if rV w ≠ 0 then jv nf nt b e r (if bad = 0 then rV w else bad) tg
  else if fitsV nf nt b e w then jv nf nt b e r bad (if iQ (AZ w) = [76] then fun y => decide (y = uz w) || tg y else tg) else none
def wordsOf (l0 : List Int) (f : jw) : List Int:=(l0.drop f.f0.toNat).take (f.f1 - f.f0).toNat
def um (l0 : List Int) (nf nt : Nat) : List jw → Int → (Int → Bool) → Option (Int × (Int → Bool))
 | [],bad,tg => some (bad,tg)
 | f :: r,bad,tg => (jv nf nt f.f0 f.f1 (wordsOf l0 f) bad tg).bind fun x => um l0 nf nt r x.1 x.2
def sH (tg : Int → Bool) : Int → List Int → List UInt8
 | _,[] => []
 | at_,w :: r => (if tg at_ then [76] ++ itoa at_ ++ [58,10] else []) ++ (sZ w ++ [10]) ++ sH tg (at_ + 1) r
def OW (tg : Int → Bool) (l0 : List Int) (i : Nat) (f : jw) : List UInt8:=[102,117,110,99,32,102] ++ itoa i ++ [10] ++ sH tg f.f0 (wordsOf l0 f)
def gq (tg : Int → Bool) (l0 : List Int) : Nat → List jw → List UInt8
 | _,[] => []
 | i,f :: r => OW tg l0 i f ++ gq tg l0 (i + 1) r
def dG (n : Int) : Int → List jw → Bool
 | at_,[] => decide (at_ = n)
 | at_,f :: r => decide (f.f0 = at_) && decide (at_ < f.f1) && decide (f.f1 ≤ n) && dG n f.f1 r
def gX (l0 : List Int) (l1 : List jw) : Bool:=dG l0.length 0 l1 && !l1.isEmpty
def wF (l0 : List Int) (l1 : List jw) (l2 : List qB) : List UInt8 × Int :=
 if (gX l0 l1 && qX l2) = false then ([],1) else
 match um l0 l1.length l2.length l1 0 (fun _ => false) with
 | none => ([],1)
 | some (bad,tg) => if bad ≠ 0 then ([],bad) else if 262144 < (ig 0 l2 ++ gq tg l0 0 l1).length then ([],75) else (ig 0 l2 ++ gq tg l0 0 l1,0)
theorem Jk {l : List jw} {i : Nat} {x : jw} (h : l[i]? = some x) : NG l (i : Int) = x:=by unfold NG; rw [Int.toNat_natCast,List.getD_eq_getElem?_getD,h]; rfl
theorem qw {n : Int} (h : vH n = true) : uZ n:=by
 unfold vH at h
 simp at h
 exact ⟨by omega,by omega⟩
theorem Ej (c : JG) : bT.f 8 c.f0 c.f1 c.f2 c.f3 = some (if rU c then (bs (AU c),true) else (⟨#[]⟩,false)):=by
 have step : ∀ (xs : List Int) (k : Nat) (s : List UInt8) (i : Nat),i ≤ xs.length → xs.length ≤ i + k → xs.length ≤ 3 → s.length ≤ 10 + 10 * i → bT.l0 (k + 1) (bs s) xs (xs.length : Int) (i : Int) = some (if (xs.drop i).all vH then (bs (s ++ (xs.drop i).flatMap tu),true) else (⟨#[]⟩,false)):=by
  intro xs k
  induction k with
  | zero =>
   intro s i h1 h2 h3 h4
   obtain rfl : i = xs.length:=by omega
   rw [bT.l0,if_neg (by omega),List.drop_length]
   simp
  | succ k ih =>
   intro s i h1 h2 h3 h4
   by_cases hi : i < xs.length
   ·obtain ⟨y,hy⟩ : ∃ y,xs[i]? = some y:=⟨_,List.getElem?_eq_getElem hi⟩
    have e : rd xs (i : Int) = y:=by unfold rd; rw [Int.toNat_natCast,List.getD_eq_getElem?_getD,hy]; rfl
    have ed : xs.drop i = y :: xs.drop (i + 1):=by
     obtain ⟨a1,a2⟩:=List.getElem?_eq_some_iff.1 hy
     rw [List.drop_eq_getElem_cons a1,a2]
    rw [bT.l0,if_pos (by omega),if_pos (by omega),if_pos (by omega),e,ed]
    by_cases hr : vH y = true
    ·have hr2 : 0 ≤ y ∧ y < 16:=by unfold vH at hr; simpa using hr
     have hl:=jL (qw hr)
     rw [if_neg (by omega),if_neg (by omega),Nq (qw hr)]
     simp only [Option.bind_some]
     rw [show (⟨#[32,114]⟩ : ByteArray) = bs [32,114] from rfl,iD,eX,eX,eX,if_pos (by omega),if_pos (by simp only [List.length_append,List.length_cons,List.length_nil]; omega),iD,
      show wrap64 ((i : Int) + 1) = ((i + 1 : Nat) : Int) by unfold wrap64; omega,
      ih (s ++ ([32,114] ++ itoa y)) (i + 1) (by omega) (by omega) h3 (by simp only [List.length_append,List.length_cons,List.length_nil]; omega)]
     simp [hr,tu]
    ·have hr2 : y < 0 ∨ y ≥ 16:=by unfold vH at hr; simp at hr; omega
     rw [Bool.not_eq_true] at hr
     by_cases h0 : y < 0
     ·rw [if_pos h0]; simp [hr]
     ·rw [if_neg h0,if_pos (by omega)]; simp [hr]
   ·obtain rfl : i = xs.length:=by omega
    rw [bT.l0,if_neg (by omega),List.drop_length]
    simp
 unfold bT.f rU AU OE
 simp only [Option.bind_some]
 obtain ⟨b,x,y,z⟩:=c
 cases b with
 | true =>
  simp only [if_true]
  rw [bT.j0,show (⟨#[115,101,110,100]⟩ : ByteArray) = bs [115,101,110,100] from rfl]
  have:=step [x,y] 6 [115,101,110,100] 0 (by simp) (by simp) (by simp) (by simp)
  rw [List.drop_zero] at this
  simp only [Int.natCast_zero] at this
  rw [this]
  simp
 | false =>
  simp only [Bool.false_eq_true,if_false]
  rw [if_pos (by simp),bT.j0,show (⟨#[114,101,99,118]⟩ : ByteArray) = bs [114,101,99,118] from rfl]
  have:=step [x,y,z] 6 [114,101,99,118] 0 (by simp) (by simp) (by simp) (by simp)
  rw [List.drop_zero] at this
  simp only [Int.natCast_zero] at this
  refine this.trans ?_
  simp [Bool.and_assoc]
theorem Hq {w : Int} (h0 : 0 ≤ w) (h1 : w < 4294967296) : dQ.f w = some (su w):=by
 unfold su
 rcases wW w h0 h1 with ⟨k,a,b,c,m,_,h,_⟩ | ⟨o,a,b,c,m,e,h,_⟩ <;> rw [h] <;> rfl
end Go.Proofs.YtdbpglhdicmhhaaGreatDoor.Q
end

section
namespace Go.Proofs.YtdbpglhdicmhhaaGreatDoor.Q
open Go.RowKit Go.Lib Go.Proofs.YtdbpglhdicmhhaaGreatDoor.GA
theorem U1 (o : Int) : (iQ o = [76] ∧ aW.f 2 o = some ⟨#[76]⟩) ∨ (iQ o = [102] ∧ aW.f 2 o = some ⟨#[102]⟩) ∨ (iQ o = [116] ∧ aW.f 2 o = some ⟨#[116]⟩) ∨ (iQ o = [] ∧ aW.f 2 o = some ⟨#[]⟩):=by
 rw [prefix_at 0]
 unfold iQ
 repeat' split
 ·exact .inl ⟨rfl,rfl⟩
 ·exact .inr (.inl ⟨rfl,rfl⟩)
 ·exact .inr (.inr (.inl ⟨rfl,rfl⟩))
 ·exact .inr (.inr (.inr ⟨rfl,rfl⟩))
def BG (nf nt : Nat) (b e o m : Int) : Bool :=
 if iQ o = [76] then decide (b ≤ m) && decide (m < e) else if iQ o = [102] then decide (m < nf) else if iQ o = [116] then decide (m < nt) else true
end Go.Proofs.YtdbpglhdicmhhaaGreatDoor.Q
namespace Go.Proofs.YtdbpglhdicmhhaaGreatDoor.qp
open Go.RowKit Go.Shelf Go.Proofs.YtdbpglhdicmhhaaGreatDoorW.aI Go.Proofs.YtdbpglhdicmhhaaGreatDoorW.aX Go.Proofs.YtdbpglhdicmhhaaGreatDoorW.aZ iM GA
structure PC (w : World) (A0 : Option Addr) (c0 : Nat) (l0 : List Int) (A1 : Option Addr) (c1 : Nat) (l1 : List jw) (A2 : Option Addr) (c2 : Nat) (l2 : List qB) : Prop where
 g0 : Kd.C (Kd.int .u32) w A0 l0.length l0
 h0 : l0.length ≤ c0
 g1 : Kd.C Xj w A1 l1.length l1
 h1 : l1.length ≤ c1
 g2 : Kd.C Xl w A2 l2.length l2
 h2 : l2.length ≤ c2
theorem iF {w W : World} (h : aV w W) : Below w.heap.size w W:=by
 obtain ⟨n,rfl⟩:=h
 exact aj (Below.refl _ _) n
theorem PN (A0 : Option Addr) (c0 : Nat) (l0 : List Int) (A1 : Option Addr) (c1 : Nat) (l1 : List jw) (A2 : Option Addr) (c2 : Nat) (l2 : List qB) (w : World) (hP : PC w A0 c0 l0 A1 c1 l1 A2 c2 l2) (hn : l1.length ≤ 8796093022208) :
  Calls Tryz.prog 46 #[.agg #[.slice A0 l0.length c0,.slice A1 l1.length c1,.slice A2 l2.length c2]] w fun e w' => e = .returned (.bool (Q.gX l0 l1)) ∧ Below w.heap.size w w':=by
 have HP:=Lib.hid hP
 have HN:=Lib.hid hn
 have M0:=ah.mk (jo.start w)
 clear hP hn
 go_enter Tryz.func46,Tryz.ntmps46
 go_wp2_with (first
  | ((with_reducible refine bI (N:=1) rfl ?_); refine yB M0 1 #[.slice A0 l0.length c0,.slice A1 l1.length c1,.slice A2 l2.length c2] 26 ?_; clear M0; intro g1 w1 M1; have p1:=M1.out.mem.mem.cell 0 rfl 1)
  | fail)
 go_loopg [3,9] l1.length (fun g v3 v9 wr => ∃ (j : Nat) (at_ : Int),j + g = l1.length ∧ v3 = .int .i64 at_ ∧ v9 = .int .i64 j ∧ jo w wr [(g1,#[.slice A0 l0.length c0,.slice A1 l1.length c1,.slice A2 l2.length c2],26)] (.slice none 0 0) [] ∧ Q.dG l0.length at_ (l1.drop j) = Q.dG l0.length 0 l1)
 case atStart => exact ⟨0,0,Nat.zero_add _,rfl,rfl,M1.out,by rw [List.drop_zero]⟩
 case round =>
  clear M1 p1
  rename World => w2
  obtain ⟨j,at_,hj,rfl,rfl,M2,hp⟩:=hrel
  have M3:=ah.mk M2
  have HQ:=Lib.hid hp
  clear M2 hp
  have p0:=M3.out.mem.mem.cell 0 rfl 0
  have p1:=M3.out.mem.mem.cell 0 rfl 1
  by_cases hjl : j < l1.length
  ·obtain ⟨Ep,rfl⟩ : ∃ g,gk = g + 1:=⟨gk - 1,by omega⟩
   have HG:=Lib.hid hj
   obtain ⟨f,hf⟩ : ∃ f,l1[j]? = some f:=⟨_,List.getElem?_eq_getElem hjl⟩
   have hdr : l1.drop j = f :: l1.drop (j + 1):=by
    obtain ⟨a1,a2⟩:=List.getElem?_eq_some_iff.1 hf
    rw [List.drop_eq_getElem_cons a1,a2]
   have HS:=Lib.hid (show (decide (f.f0 = at_) && decide (at_ < f.f1) && decide (f.f1 ≤ l0.length) && Q.dG l0.length f.f1 (l1.drop (j + 1))) = Q.dG l0.length 0 l1 by rw [← HQ.out,hdr,Q.dG])
   have HV:=Lib.hid (show Q.dG l0.length 0 l1 = false → Q.gX l0 l1 = false from fun h => by unfold Q.gX; rw [h]; rfl)
   have qj : (j : Int) < (l1.length : Int):=by omega
   have W:=Lib.hid (show wrap64 ((j : Int) + 1) = ((j + 1 : Nat) : Int) by rw [Int.natCast_add]; exact IntWalk.wrap64_in _ (by have:=HN.out; omega))
   obtain ⟨ad,rfl,x0,x1⟩:=DK HP.out.g1 (j : Int) (by omega) qj
   rw [Int.toNat_natCast,Q.Jk hf] at x0 x1
   have y0:=(M3.out.below.cell (World.block_lt_of_cell? w _ x0)).trans x0
   have y1:=(M3.out.below.cell (World.block_lt_of_cell? w _ x1)).trans x1
   clear hf hdr hjl hj x0 x1
   by_cases h1 : f.f0 = at_
   ·subst h1
    by_cases h2 : f.f1 ≤ f.f0
    ·have HR:=Lib.hid (HV.out (by rw [← HS.out,decide_eq_false (show ¬ f.f0 < f.f1 by omega)]; simp))
     go_wp2_with (first
      | ((with_reducible refine bI (N:=5) rfl ?_); refine yB M3 5 #[.int .i64 0,.int .i64 0] 41 ?_; clear M3; intro g5 wb M4)
      | ((with_reducible refine aU (t:=41) (p:=5) rfl ?_); refine yR M4 41 5 1 #[.int .i64 f.f0,.int .i64 f.f1] ?_; clear M4 y0 y1 p0 p1; intro wc M5; have p0:=M5.out.mem.mem.cell 0 rfl 0; have z0:=M5.out.mem.mem.cell 1 rfl 0; have z1:=M5.out.mem.mem.cell 1 rfl 1)
      | fail)
     go_ret
     rw [HR.out]
     exact ⟨rfl,M5.out.below⟩
    ·by_cases h3 : f.f1 > (l0.length : Int)
     ·have HR:=Lib.hid (HV.out (by rw [← HS.out,decide_eq_false (show ¬ f.f1 ≤ l0.length by omega)]; simp))
      go_wp2_with (first
       | ((with_reducible refine bI (N:=5) rfl ?_); refine yB M3 5 #[.int .i64 0,.int .i64 0] 41 ?_; clear M3; intro g5 wb M4)
       | ((with_reducible refine aU (t:=41) (p:=5) rfl ?_); refine yR M4 41 5 1 #[.int .i64 f.f0,.int .i64 f.f1] ?_; clear M4 y0 y1 p0 p1; intro wc M5; have p0:=M5.out.mem.mem.cell 0 rfl 0; have z0:=M5.out.mem.mem.cell 1 rfl 0; have z1:=M5.out.mem.mem.cell 1 rfl 1)
       | fail)
      go_ret
      rw [HR.out]
      exact ⟨rfl,M5.out.below⟩
     ·have HX:=Lib.hid (show Q.dG l0.length f.f1 (l1.drop (j + 1)) = Q.dG l0.length 0 l1 by rw [← HS.out,decide_eq_true (show f.f0 < f.f1 by omega),decide_eq_true (show f.f1 ≤ l0.length by omega)]; simp)
      go_wp2_with (first
       | ((with_reducible refine bI (N:=5) rfl ?_); refine yB M3 5 #[.int .i64 0,.int .i64 0] 41 ?_; clear M3; intro g5 wb M4)
       | ((with_reducible refine aU (t:=41) (p:=5) rfl ?_); refine yR M4 41 5 1 #[.int .i64 f.f0,.int .i64 f.f1] ?_; clear M4 y0 y1 p0 p1; intro wc M5; have p0:=M5.out.mem.mem.cell 0 rfl 0; have z0:=M5.out.mem.mem.cell 1 rfl 0; have z1:=M5.out.mem.mem.cell 1 rfl 1)
       | fail)
      go_roundg Ep
      case measure => omega
      case rel => exact ⟨j + 1,f.f1,by have:=HG.out; omega,rfl,by rw [W.out],M5.out.forget 1,HX.out⟩
   ·have HR:=Lib.hid (HV.out (by rw [← HS.out,decide_eq_false h1]; rfl))
    go_wp2_with (first
     | ((with_reducible refine bI (N:=5) rfl ?_); refine yB M3 5 #[.int .i64 0,.int .i64 0] 41 ?_; clear M3; intro g5 wb M4)
     | ((with_reducible refine aU (t:=41) (p:=5) rfl ?_); refine yR M4 41 5 1 #[.int .i64 f.f0,.int .i64 f.f1] ?_; clear M4 y0 y1 p0 p1; intro wc M5; have p0:=M5.out.mem.mem.cell 0 rfl 0; have z0:=M5.out.mem.mem.cell 1 rfl 0; have z1:=M5.out.mem.mem.cell 1 rfl 1)
     | fail)
    go_ret
    rw [HR.out]
    exact ⟨rfl,M5.out.below⟩
  ·obtain rfl : j = l1.length:=by omega
   have qj : ¬ (l1.length : Int) < (l1.length : Int):=by omega
   have HE:=Lib.hid (show decide (at_ = (l0.length : Int)) = Q.dG l0.length 0 l1 by rw [← HQ.out,List.drop_length,Q.dG])
   clear hjl hj HQ
   by_cases he : at_ = (l0.length : Int)
   ·subst he
    have HR:=Lib.hid (show Q.gX l0 l1 = decide (0 < l1.length) by
     unfold Q.gX
     rw [← HE.out,decide_eq_true rfl]
     cases l1 <;> simp)
    go_wp2
    go_ret
    rw [HR.out]
    exact ⟨rfl,M3.out.below⟩
   ·have HR:=Lib.hid (show Q.gX l0 l1 = false by
     unfold Q.gX
     rw [← HE.out,decide_eq_false he]; rfl)
    go_wp2
    go_ret
    rw [HR.out]
    exact ⟨rfl,M3.out.below⟩
theorem GH (A0 : Option Addr) (c0 : Nat) (l0 : List Int) (A1 : Option Addr) (c1 : Nat) (l1 : List jw) (A2 : Option Addr) (c2 : Nat) (l2 : List qB) (w : World) (hP : PC w A0 c0 l0 A1 c1 l1 A2 c2 l2) (b e o a1 a2 a3 m : Int) :
  Calls Tryz.prog 49 #[.agg #[.slice A0 l0.length c0,.slice A1 l1.length c1,.slice A2 l2.length c2],.agg #[.int .i64 b,.int .i64 e],.agg #[.int .i64 o,.int .i64 a1,.int .i64 a2,.int .i64 a3,.int .i64 m]] w fun e' w' => e' = .returned (.bool (Q.BG l1.length l2.length b e o m)) ∧ Below w.heap.size w w':=by
 have M0:=ah.mk (jo.start w)
 clear hP
 go_enter Tryz.func49,Tryz.ntmps49
 go_wp2_with (first
  | ((with_reducible refine bI (N:=3) rfl ?_); refine yB M0 3 #[.slice A0 l0.length c0,.slice A1 l1.length c1,.slice A2 l2.length c2] 26 ?_; clear M0; intro g1 w1 M1)
  | ((with_reducible refine bI (N:=4) rfl ?_); refine yB M1 4 #[.int .i64 b,.int .i64 e] 41 ?_; clear M1; intro g2 w2 M2)
  | ((with_reducible refine bI (N:=5) rfl ?_); refine yB M2 5 #[.int .i64 o,.int .i64 a1,.int .i64 a2,.int .i64 a3,.int .i64 m] 70 ?_; clear M2; intro g3 w3 M3; have t0:=M3.out.mem.mem.cell 2 rfl 0)
  | fail)
 rcases Q.U1 o with hp | hp | hp | hp
 all_goals
  obtain ⟨hp,hf⟩:=hp
  refine (GA.aW.calls 2 o _ _ hf).mono ?_
  rintro e' W4 ⟨rfl,hdn⟩
  have M4:=ah.mk (M3.out.call (iF hdn))
  have HP:=Lib.hid hp
  clear hdn M3 t0 hf hp
  have t4:=M4.out.mem.mem.cell 2 rfl 4
  have q0:=M4.out.mem.mem.cell 1 rfl 0
  have q1:=M4.out.mem.mem.cell 1 rfl 1
  have p1:=M4.out.mem.mem.cell 0 rfl 1
  have p2:=M4.out.mem.mem.cell 0 rfl 2
 ·by_cases h0 : b ≤ m
  ·have HR:=Lib.hid (show Q.BG l1.length l2.length b e o m = decide (m < e) by unfold Q.BG; rw [HP.out,if_pos rfl,decide_eq_true h0,Bool.true_and])
   go_wp2
   go_ret
   rw [HR.out]
   exact ⟨rfl,M4.out.below⟩
  ·have HR:=Lib.hid (show Q.BG l1.length l2.length b e o m = false by unfold Q.BG; rw [HP.out,if_pos rfl,decide_eq_false h0,Bool.false_and])
   go_wp2
   go_ret
   rw [HR.out]
   exact ⟨rfl,M4.out.below⟩
 ·have HR:=Lib.hid (show Q.BG l1.length l2.length b e o m = decide (m < l1.length) by unfold Q.BG; rw [HP.out,if_neg (by decide),if_pos rfl])
  go_wp2
  go_ret
  rw [HR.out]
  exact ⟨rfl,M4.out.below⟩
 ·have HR:=Lib.hid (show Q.BG l1.length l2.length b e o m = decide (m < l2.length) by unfold Q.BG; rw [HP.out,if_neg (by decide),if_neg (by decide),if_pos rfl])
  go_wp2
  go_ret
  rw [HR.out]
  exact ⟨rfl,M4.out.below⟩
 ·have HR:=Lib.hid (show Q.BG l1.length l2.length b e o m = true by unfold Q.BG; rw [HP.out,if_neg (by decide),if_neg (by decide),if_neg (by decide)])
  go_wp2
  go_ret
  rw [HR.out]
  exact ⟨rfl,M4.out.below⟩
end Go.Proofs.YtdbpglhdicmhhaaGreatDoor.qp
end
