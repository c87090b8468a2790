import Derived.Test.YtdbpglhdicmhhaaGreatDoorMPr12
import Derived.Test.YtdbpglhdicmhhaaGreatDoorMPr22
import Derived.Test.YtdbpglhdicmhhaaGreatDoorMPr38
import Derived.Test.YtdbpglhdicmhhaaGreatDoorMPr19
set_option maxHeartbeats 4000000
set_option maxRecDepth 100000
set_option linter.unusedVariables false
set_option linter.unusedSimpArgs false
section
namespace Go.Proofs.YtdbpglhdicmhhaaGreatDoor.Q
open Go.RowKit Go.Lib Go.Proofs.YtdbpglhdicmhhaaGreatDoor.GA
theorem PZ (o : Int) : (iQ o = [76] ∧ bQ.f 2 o = some ⟨#[76]⟩) ∨ (iQ o = [102] ∧ bQ.f 2 o = some ⟨#[102]⟩) ∨ (iQ o = [116] ∧ bQ.f 2 o = some ⟨#[116]⟩) ∨ (iQ o = [] ∧ bQ.f 2 o = some ⟨#[]⟩):=by
 rw [Ot 0]
 unfold iQ
 repeat' split
 ·exact .inl ⟨rfl,rfl⟩
 ·exact .inr (.inl ⟨rfl,rfl⟩)
 ·exact .inr (.inr (.inl ⟨rfl,rfl⟩))
 ·exact .inr (.inr (.inr ⟨rfl,rfl⟩))
end Go.Proofs.YtdbpglhdicmhhaaGreatDoor.Q
namespace Go.Proofs.YtdbpglhdicmhhaaGreatDoor.qp
open Go.RowKit Go.Shelf Go.Proofs.YtdbpglhdicmhhaaGreatDoorW.aI Go.Proofs.YtdbpglhdicmhhaaGreatDoorW.aX Go.Proofs.YtdbpglhdicmhhaaGreatDoorW.aZ iM GA
theorem Jr (A0 : Option Addr) (c0 : Nat) (l0 : List Int) (A1 : Option Addr) (c1 : Nat) (l1 : List jw) (A2 : Option Addr) (c2 : Nat) (l2 : List qB) (w : World) (hP : PC w A0 c0 l0 A1 c1 l1 A2 c2 l2) (hn : l1.length ≤ 8796093022208) :
  Calls Tryz.prog 86 #[.agg #[.slice A0 l0.length c0,.slice A1 l1.length c1,.slice A2 l2.length c2]] w fun e w' => e = .returned (.bool (Q.gX l0 l1)) ∧ Below w.heap.size w w':=by
 have HP:=Lib.hid hP
 have HN:=Lib.hid hn
 have M0:=ah.mk (jo.start w)
 clear hP hn
 go_enter Tryz.func86,Tryz.ntmps86
 go_wp2_with (first
  | ((with_reducible refine bI (N:=1) rfl ?_); refine yB M0 1 #[.slice A0 l0.length c0,.slice A1 l1.length c1,.slice A2 l2.length c2] 26 ?_; clear M0; intro g1 w1 M1; have p1:=M1.out.mem.mem.cell 0 rfl 1)
  | fail)
 go_loopg [3,4] l1.length (fun g v3 v4 wr => ∃ (j : Nat) (at_ : Int),j + g = l1.length ∧ v3 = .int .i64 at_ ∧ v4 = .int .i64 j ∧ jo w wr [(g1,#[.slice A0 l0.length c0,.slice A1 l1.length c1,.slice A2 l2.length c2],26)] (.slice none 0 0) [] ∧ Q.dG l0.length at_ (l1.drop j) = Q.dG l0.length 0 l1)
 case atStart => exact ⟨0,0,Nat.zero_add _,rfl,rfl,M1.out,by rw [List.drop_zero]⟩
 case round =>
  clear M1 p1
  rename World => w2
  obtain ⟨j,at_,hj,rfl,rfl,M2,hp⟩:=hrel
  have M3:=ah.mk M2
  have HQ:=Lib.hid hp
  clear M2 hp
  have p0:=M3.out.mem.mem.cell 0 rfl 0
  have p1:=M3.out.mem.mem.cell 0 rfl 1
  by_cases hjl : j < l1.length
  ·obtain ⟨Ep,rfl⟩ : ∃ g,gk = g + 1:=⟨gk - 1,by omega⟩
   have HG:=Lib.hid hj
   obtain ⟨f,hf⟩ : ∃ f,l1[j]? = some f:=⟨_,List.getElem?_eq_getElem hjl⟩
   have hdr : l1.drop j = f :: l1.drop (j + 1):=by
    obtain ⟨a1,a2⟩:=List.getElem?_eq_some_iff.1 hf
    rw [List.drop_eq_getElem_cons a1,a2]
   have HS:=Lib.hid (show (decide (f.f0 = at_) && decide (at_ < f.f1) && decide (f.f1 ≤ l0.length) && Q.dG l0.length f.f1 (l1.drop (j + 1))) = Q.dG l0.length 0 l1 by rw [← HQ.out,hdr,Q.dG])
   have HV:=Lib.hid (show Q.dG l0.length 0 l1 = false → Q.gX l0 l1 = false from fun h => by unfold Q.gX; rw [h]; rfl)
   have qj : (j : Int) < (l1.length : Int):=by omega
   have W:=Lib.hid (show wrap64 ((j : Int) + 1) = ((j + 1 : Nat) : Int) by rw [Int.natCast_add]; exact IntWalk.wrap64_in _ (by have:=HN.out; omega))
   obtain ⟨ad,rfl,x0,x1⟩:=DK HP.out.g1 (j : Int) (by omega) qj
   rw [Int.toNat_natCast,Q.Jk hf] at x0 x1
   have y0:=(M3.out.below.cell (World.block_lt_of_cell? w _ x0)).trans x0
   have y1:=(M3.out.below.cell (World.block_lt_of_cell? w _ x1)).trans x1
   clear hf hdr hjl hj x0 x1
   by_cases h1 : f.f0 = at_
   ·subst h1
    by_cases h2 : f.f1 ≤ f.f0
    ·have HR:=Lib.hid (HV.out (by rw [← HS.out,decide_eq_false (show ¬ f.f0 < f.f1 by omega)]; simp))
     go_wp2_with (first
      | ((with_reducible refine bI (N:=5) rfl ?_); refine yB M3 5 #[.int .i64 0,.int .i64 0] 41 ?_; clear M3; intro g5 wb M4)
      | ((with_reducible refine aU (t:=41) (p:=5) rfl ?_); refine yR M4 41 5 1 #[.int .i64 f.f0,.int .i64 f.f1] ?_; clear M4 y0 y1 p0 p1; intro wc M5; have p0:=M5.out.mem.mem.cell 0 rfl 0; have z0:=M5.out.mem.mem.cell 1 rfl 0; have z1:=M5.out.mem.mem.cell 1 rfl 1)
      | fail)
     go_ret
     rw [HR.out]
     exact ⟨rfl,M5.out.below⟩
    ·by_cases h3 : f.f1 > (l0.length : Int)
     ·have HR:=Lib.hid (HV.out (by rw [← HS.out,decide_eq_false (show ¬ f.f1 ≤ l0.length by omega)]; simp))
      go_wp2_with (first
       | ((with_reducible refine bI (N:=5) rfl ?_); refine yB M3 5 #[.int .i64 0,.int .i64 0] 41 ?_; clear M3; intro g5 wb M4)
       | ((with_reducible refine aU (t:=41) (p:=5) rfl ?_); refine yR M4 41 5 1 #[.int .i64 f.f0,.int .i64 f.f1] ?_; clear M4 y0 y1 p0 p1; intro wc M5; have p0:=M5.out.mem.mem.cell 0 rfl 0; have z0:=M5.out.mem.mem.cell 1 rfl 0; have z1:=M5.out.mem.mem.cell 1 rfl 1)
       | fail)
      go_ret
      rw [HR.out]
      exact ⟨rfl,M5.out.below⟩
     ·have HX:=Lib.hid (show Q.dG l0.length f.f1 (l1.drop (j + 1)) = Q.dG l0.length 0 l1 by rw [← HS.out,decide_eq_true (show f.f0 < f.f1 by omega),decide_eq_true (show f.f1 ≤ l0.length by omega)]; simp)
      go_wp2_with (first
       | ((with_reducible refine bI (N:=5) rfl ?_); refine yB M3 5 #[.int .i64 0,.int .i64 0] 41 ?_; clear M3; intro g5 wb M4)
       | ((with_reducible refine aU (t:=41) (p:=5) rfl ?_); refine yR M4 41 5 1 #[.int .i64 f.f0,.int .i64 f.f1] ?_; clear M4 y0 y1 p0 p1; intro wc M5; have p0:=M5.out.mem.mem.cell 0 rfl 0; have z0:=M5.out.mem.mem.cell 1 rfl 0; have z1:=M5.out.mem.mem.cell 1 rfl 1)
       | fail)
      go_roundg Ep
      case measure => omega
      case rel => exact ⟨j + 1,f.f1,by have:=HG.out; omega,rfl,by rw [W.out],M5.out.forget 1,HX.out⟩
   ·have HR:=Lib.hid (HV.out (by rw [← HS.out,decide_eq_false h1]; rfl))
    go_wp2_with (first
     | ((with_reducible refine bI (N:=5) rfl ?_); refine yB M3 5 #[.int .i64 0,.int .i64 0] 41 ?_; clear M3; intro g5 wb M4)
     | ((with_reducible refine aU (t:=41) (p:=5) rfl ?_); refine yR M4 41 5 1 #[.int .i64 f.f0,.int .i64 f.f1] ?_; clear M4 y0 y1 p0 p1; intro wc M5; have p0:=M5.out.mem.mem.cell 0 rfl 0; have z0:=M5.out.mem.mem.cell 1 rfl 0; have z1:=M5.out.mem.mem.cell 1 rfl 1)
     | fail)
    go_ret
    rw [HR.out]
    exact ⟨rfl,M5.out.below⟩
  ·obtain rfl : j = l1.length:=by omega
   have qj : ¬ (l1.length : Int) < (l1.length : Int):=by omega
   have HE:=Lib.hid (show decide (at_ = (l0.length : Int)) = Q.dG l0.length 0 l1 by rw [← HQ.out,List.drop_length,Q.dG])
   clear hjl hj HQ
   by_cases h0 : (0 : Int) < (l1.length : Int)
   ·have HR:=Lib.hid (show Q.gX l0 l1 = (at_ == (l0.length : Int)) by
     unfold Q.gX
     rw [← HE.out]
     cases l1 with
     | nil => simp at h0
     | cons a b => simp; rfl)
    go_wp2
    go_ret
    rw [HR.out]
    exact ⟨rfl,M3.out.below⟩
   ·have HR:=Lib.hid (show Q.gX l0 l1 = false by
     unfold Q.gX
     cases l1 with
     | nil => simp
     | cons a b => exact absurd (show (0 : Int) < ((a :: b).length : Int) by simp) h0)
    go_wp2
    go_ret
    rw [HR.out]
    exact ⟨rfl,M3.out.below⟩
theorem QL (A0 : Option Addr) (c0 : Nat) (l0 : List Int) (A1 : Option Addr) (c1 : Nat) (l1 : List jw) (A2 : Option Addr) (c2 : Nat) (l2 : List qB) (w : World) (hP : PC w A0 c0 l0 A1 c1 l1 A2 c2 l2) (hwd : ∀ x ∈ l0,0 ≤ x ∧ x < 4294967296) (hn : l0.length ≤ 1099511627776) (f : jw) (at_ : Int) (h0 : 0 ≤ f.f0) (h2 : f.f0 ≤ f.f1) (h1 : f.f1 ≤ l0.length) :
  Calls Tryz.prog 53 #[.agg #[.slice A0 l0.length c0,.slice A1 l1.length c1,.slice A2 l2.length c2],.agg #[.int .i64 f.f0,.int .i64 f.f1],.int .i64 at_] w fun e w' => e = .returned (.bool (Q.Kq l0 f at_)) ∧ Below w.heap.size w w':=by
 have HP:=Lib.hid hP
 have HW:=Lib.hid hwd
 have HN:=Lib.hid hn
 have HF:=Lib.hid (And.intro h0 (And.intro h2 h1))
 have M0:=ah.mk (jo.start w)
 clear hP hwd hn h0 h1 h2
 go_enter Tryz.func53,Tryz.ntmps53
 go_wp2_with (first
  | ((with_reducible refine bI (N:=3) rfl ?_); refine yB M0 3 #[.slice A0 l0.length c0,.slice A1 l1.length c1,.slice A2 l2.length c2] 26 ?_; clear M0; intro g1 w1 M1)
  | ((with_reducible refine bI (N:=4) rfl ?_); refine yB M1 4 #[.int .i64 f.f0,.int .i64 f.f1] 41 ?_; clear M1; intro g2 w2 M2; have q0:=M2.out.mem.mem.cell 1 rfl 0; have q1:=M2.out.mem.mem.cell 1 rfl 1)
  | fail)
 clear q0
 go_loopg [7] (f.f1 - f.f0).toNat (fun g v7 wr => ∃ (i : Nat),i + g = (f.f1 - f.f0).toNat ∧ v7 = .int .i64 (f.f0 + i) ∧ jo w wr [(g1,#[.slice A0 l0.length c0,.slice A1 l1.length c1,.slice A2 l2.length c2],26),(g2,#[.int .i64 f.f0,.int .i64 f.f1],41)] (.slice none 0 0) [] ∧ ((Q.wordsOf l0 f).take i).any (fun w => decide (Q.iQ (Q.AZ w) = [76]) && decide (Q.uz w = at_)) = false)
 case atStart => exact ⟨0,Nat.zero_add _,by rw [Int.natCast_zero,Int.add_zero],M2.out,rfl⟩
 case round =>
  clear M2 q1
  rename World => w3
  obtain ⟨i,hi,rfl,M3,hok⟩:=hrel
  have M4:=ah.mk M3
  have Qq:=Lib.hid hok
  clear M3 hok
  have q1:=M4.out.mem.mem.cell 1 rfl 1
  have p0:=M4.out.mem.mem.cell 0 rfl 0
  by_cases hil : (i : Int) < f.f1 - f.f0
  ·obtain ⟨Ep,rfl⟩ : ∃ g,gk = g + 1:=⟨gk - 1,by omega⟩
   have HG:=Lib.hid hi
   obtain ⟨x,hx,hxd,hxm⟩:=Q.CJ (l0:=l0) (f:=f) (i:=i) HF.out.1 hil HF.out.2.2
   have HXI:=Lib.hid (show (Q.wordsOf l0 f)[i]? = some x by
    have h:=congrArg (fun l => l[0]?) hxd
    simpa using h)
   have Om:=Lib.hid (HW.out x (List.mem_of_getElem? hx))
   have qa : f.f0 + (i : Int) < f.f1:=by omega
   have q2 : (0 : Int) ≤ f.f0 + (i : Int):=by have:=HF.out.1; omega
   have q3 : f.f0 + (i : Int) < (l0.length : Int):=by have:=HF.out.2.2; omega
   have W7:=Lib.hid (show wrap64 (f.f0 + (i : Int) + 1) = f.f0 + ((i + 1 : Nat) : Int) by rw [IntWalk.wrap64_in _ (by have:=HN.out; omega)]; omega)
   obtain ⟨Ut,rfl,hcell⟩:=Kd.tN HP.out.g0 (f.f0 + (i : Int)) q2 q3
   have hrx : rd l0 (f.f0 + (i : Int)) = x:=by
    unfold rd
    rw [show (f.f0 + (i : Int)).toNat = f.f0.toNat + i by have:=HF.out.1; omega,List.getD_eq_getElem?_getD,hx]; rfl
   rw [hrx] at hcell
   have yc:=(M4.out.below.cell (World.block_lt_of_cell? _ _ hcell)).trans hcell
   obtain ⟨o,a1,a2,a3,m,e,hdec⟩ : ∃ o a1 a2 a3 m e,Q.su x = (o,a1,a2,a3,m,e):=⟨_,_,_,_,_,_,rfl⟩
   have HD:=Lib.hid (show dJ.f x = some (o,a1,a2,a3,m,e) by rw [← hdec]; exact Q.NP Om.out.1 Om.out.2)
   have Dt:=Lib.hid (show Q.AZ x = o ∧ Q.uz x = m by unfold Q.AZ Q.uz; rw [hdec]; exact ⟨rfl,rfl⟩)
   have HST:=Lib.hid (show ((Q.wordsOf l0 f).take (i + 1)).any (fun w => decide (Q.iQ (Q.AZ w) = [76]) && decide (Q.uz w = at_)) = (decide (Q.iQ o = [76]) && decide (m = at_)) by
    rw [List.take_add_one,HXI.out,List.any_append,Qq.out,← Dt.out.1,← Dt.out.2]
    simp)
   have HTR:=Lib.hid (show ((Q.wordsOf l0 f).take (i + 1)).any (fun w => decide (Q.iQ (Q.AZ w) = [76]) && decide (Q.uz w = at_)) = true → Q.Kq l0 f at_ = true from fun h => by
    obtain ⟨y,hy,hz⟩:=List.any_eq_true.1 h
    exact List.any_eq_true.2 ⟨y,List.mem_of_mem_take hy,hz⟩)
   clear hx hxd hxm hil hi hrx hcell hdec
   go_wp2_with fail
   refine (GA.dJ.calls x o a1 a2 a3 m e _ HD.out).mono ?_
   rintro e' W5 ⟨rfl,hb5⟩
   have M5:=ah.mk (M4.out.call hb5)
   clear M4 hb5 p0 yc q1
   go_wp2_with (first
    | ((with_reducible refine bI (N:=8) rfl ?_); refine yB M5 8 #[.int .i64 0,.int .i64 0,.int .i64 0,.int .i64 0,.int .i64 0] 70 ?_; clear M5; intro g8 wb M6)
    | ((with_reducible refine aU (t:=70) (p:=8) rfl ?_); refine yR M6 70 8 2 #[.int .i64 o,.int .i64 a1,.int .i64 a2,.int .i64 a3,.int .i64 m] ?_; clear M6; intro wc M7; have t0:=M7.out.mem.mem.cell 2 rfl 0)
    | fail)
   rcases Q.PZ o with hp | hp | hp | hp
   ·have Qr:=Lib.hid hp.2
    rw [hp.1] at HST
    clear hp
    refine (GA.bQ.calls 2 o _ _ Qr.out).mono ?_
    rintro e' W8 ⟨rfl,hdn⟩
    have M8:=ah.mk (M7.out.call (iF hdn))
    clear hdn M7 t0
    have t4:=M8.out.mem.mem.cell 2 rfl 4
    by_cases hm : m = at_
    ·have HR:=Lib.hid (HTR.out (by rw [HST.out,decide_eq_true hm]; rfl))
     go_wp2
     go_ret
     rw [HR.out]
     exact ⟨rfl,M8.out.below⟩
    ·have HC:=Lib.hid (HST.out.trans (by rw [decide_eq_false hm,Bool.and_false]))
     go_wp2
     go_roundg Ep
     case measure => omega
     case rel => exact ⟨i + 1,by have:=HG.out; omega,by rw [W7.out],M8.out.forget 2,HC.out⟩
   all_goals
    have Qr:=Lib.hid hp.2
    have HC:=Lib.hid (HST.out.trans (by rw [hp.1,decide_eq_false (by decide)]))
    clear hp
    refine (GA.bQ.calls 2 o _ _ Qr.out).mono ?_
    rintro e' W8 ⟨rfl,hdn⟩
    have M8:=ah.mk (M7.out.call (iF hdn))
    clear hdn M7 t0
    go_wp2
    go_roundg Ep
    case measure => omega
    case rel => exact ⟨i + 1,by have:=HG.out; omega,by rw [W7.out],M8.out.forget 2,HC.out⟩
  ·have qa : ¬ f.f0 + (i : Int) < f.f1:=by omega
   have hie : i = (f.f1 - f.f0).toNat:=by omega
   have HR:=Lib.hid (show Q.Kq l0 f at_ = false by
    have h:=Qq.out
    rw [List.take_of_length_le (by rw [Q.xE HF.out.1 HF.out.2.1 HF.out.2.2,hie]; exact Nat.le_refl _)] at h
    exact h)
   clear hil hi hie Qq
   go_wp2
   go_ret
   rw [HR.out]
   exact ⟨rfl,M4.out.below⟩
end Go.Proofs.YtdbpglhdicmhhaaGreatDoor.qp
end
