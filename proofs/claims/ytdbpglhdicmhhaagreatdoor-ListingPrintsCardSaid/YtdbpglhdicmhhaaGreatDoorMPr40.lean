import Derived.Test.YtdbpglhdicmhhaaGreatDoorMPr12
import Derived.Test.YtdbpglhdicmhhaaGreatDoorMPr23
import Derived.Test.YtdbpglhdicmhhaaGreatDoorMPr39
set_option maxHeartbeats 8000000
set_option maxRecDepth 100000
set_option linter.unusedVariables false
set_option linter.unusedSimpArgs false
section
namespace Go.Proofs.YtdbpglhdicmhhaaGreatDoor.Q
open Go.RowKit Go.Lib Go.Proofs.YtdbpglhdicmhhaaGreatDoor.GA
theorem FX {l0 : List Int} {l1 : List jw} {l2 : List qB} (h : qX l2 = false) : jA l0 l1 l2 = false:=by unfold jA; rw [h]; simp
theorem Bj {l0 : List Int} {l1 : List jw} {l2 : List qB} {f : jw} (hf : f ∈ l1) {x : Int} (hx : x ∈ wordsOf l0 f) (h : okW l1.length l2.length f.f0 f.f1 x = false) : jA l0 l1 l2 = false:=by
 have : l1.all (xq l0 l1 l2.length) = false:=by
  rw [List.all_eq_false]
  refine ⟨f,hf,?_⟩
  unfold xq
  rw [Bool.not_eq_true,List.all_eq_false]
  exact ⟨x,hx,by rw [h]; simp⟩
 unfold jA; rw [this]; simp
theorem ac5 {nf nt : Nat} {b e w : Int} (h : rV w ≠ 0) : okW nf nt b e w = true:=by unfold okW; rw [decide_eq_true h]; rfl
theorem Nu {nf nt : Nat} {b e w : Int} {r : Bool} (h0 : rV w = 0) (h : fitsV nf nt b e w = r) : okW nf nt b e w = r:=by unfold okW; rw [decide_eq_false (fun x => x h0),h]; rfl
theorem wG {α : Type} {p : α → Bool} {l : List α} {i : Nat} {x : α} (h : l[i]? = some x) (h1 : (l.take i).all p = true) (h2 : p x = true) : (l.take (i + 1)).all p = true:=by
 rw [List.take_add_one,h,List.all_append,h1]
 simp [h2]
end Go.Proofs.YtdbpglhdicmhhaaGreatDoor.Q
namespace Go.Proofs.YtdbpglhdicmhhaaGreatDoor.qp
open Go.RowKit Go.Shelf Go.Proofs.YtdbpglhdicmhhaaGreatDoorW.aI Go.Proofs.YtdbpglhdicmhhaaGreatDoorW.aX Go.Proofs.YtdbpglhdicmhhaaGreatDoorW.aZ iM GA
theorem fP (A0 : Option Addr) (c0 : Nat) (l0 : List Int) (A1 : Option Addr) (c1 : Nat) (l1 : List jw) (A2 : Option Addr) (c2 : Nat) (l2 : List qB) (w : World) (hP : PC w A0 c0 l0 A1 c1 l1 A2 c2 l2)
  (hwd : ∀ x ∈ l0,0 ≤ x ∧ x < 4294967296) (hF : Fits l0 l1 l2) :
  Calls Tryz.prog 52 #[.agg #[.slice A0 l0.length c0,.slice A1 l1.length c1,.slice A2 l2.length c2]] w fun e w' => e = .returned (.bool (Q.jA l0 l1 l2)) ∧ Below w.heap.size w w':=by
 have HP:=Lib.hid hP
 have HW:=Lib.hid hwd
 have HF0:=Lib.hid hF
 have M0:=ah.mk (jo.start w)
 clear hP hwd hF
 go_enter Tryz.func52,Tryz.ntmps52
 go_wp2_with (first
  | ((with_reducible refine bI (N:=1) rfl ?_); refine yB M0 1 #[.slice A0 l0.length c0,.slice A1 l1.length c1,.slice A2 l2.length c2] 26 ?_; clear M0; intro g1 w1 M1; have p0:=M1.out.mem.mem.cell 0 rfl 0; have p1:=M1.out.mem.mem.cell 0 rfl 1; have p2:=M1.out.mem.mem.cell 0 rfl 2)
  | fail)
 refine (Jr A0 c0 l0 A1 c1 l1 A2 c2 l2 w1 (HP.out.below M1.out.below) (by have:=HF0.out.h1; omega)).mono ?_
 rintro e w2 ⟨rfl,hbw⟩
 have M2:=ah.mk (M1.out.call hbw)
 clear M1 hbw p0 p1 p2
 cases hpv : Q.gX l0 l1 with
 | false =>
  have HR:=Lib.hid (show Q.jA l0 l1 l2 = false by unfold Q.jA; rw [hpv]; rfl)
  clear hpv
  go_wp2
  go_ret
  rw [HR.out]
  exact ⟨rfl,M2.out.below⟩
 | true =>
 have Yt:=Lib.hid hpv
 clear hpv
 have p2:=M2.out.mem.mem.cell 0 rfl 2
 go_wp2_with fail
 go_loopg [3] l2.length (fun g v3 wr => ∃ (i : Nat),i + g = l2.length ∧ v3 = .int .i64 i ∧ jo w wr [(g1,#[.slice A0 l0.length c0,.slice A1 l1.length c1,.slice A2 l2.length c2],26)] (.slice none 0 0) [] ∧ Q.qX (l2.take i) = true)
 case atStart => exact ⟨0,Nat.zero_add _,rfl,M2.out,rfl⟩
 case round =>
  clear M2 p2
  rename World => w4
  obtain ⟨i,hi,rfl,M4,hok⟩:=hrel
  have M5:=ah.mk M4
  have Qq:=Lib.hid hok
  clear M4 hok
  have p2:=M5.out.mem.mem.cell 0 rfl 2
  by_cases hil : i < l2.length
  ·obtain ⟨Ep,rfl⟩ : ∃ g,gk = g + 1:=⟨gk - 1,by omega⟩
   have HG:=Lib.hid hi
   obtain ⟨t,ht⟩ : ∃ t,l2[i]? = some t:=⟨_,List.getElem?_eq_getElem hil⟩
   have hrd : rX l2 (i : Int) = t:=by unfold rX; rw [Int.toNat_natCast,List.getD_eq_getElem?_getD,ht]; rfl
   have HT:=Lib.hid ht
   have Qo:=Lib.hid hil
   have qi : (i : Int) < (l2.length : Int):=by omega
   have W3:=Lib.hid (show wrap64 ((i : Int) + 1) = ((i + 1 : Nat) : Int) by rw [Int.natCast_add]; exact IntWalk.wrap64_in _ (by have:=HF0.out.h2; omega))
   obtain ⟨ad,B0,d0,rfl,x0,x1,k0,g0⟩:=IC HP.out.g2 (i : Int) (by omega) qi
   rw [Int.toNat_natCast] at x0 x1
   rw [hrd] at x0 x1 k0 g0
   have HX0:=Lib.hid x0
   have Yo:=Lib.hid g0
   have VD:=Lib.hid (HF0.out.h3 t (List.mem_of_getElem? ht))
   clear hrd ht hil hi x0 x1 g0 k0
   have y0:=(M5.out.below.cell (World.block_lt_of_cell? w _ HX0.out)).trans HX0.out
   go_wp2_with fail
   clear y0
   go_loopg [4] t.f0.length (fun g v4 wr => ∃ (j : Nat),j + g = t.f0.length ∧ v4 = .int .i64 j ∧ jo w wr [(g1,#[.slice A0 l0.length c0,.slice A1 l1.length c1,.slice (some ad) l2.length c2],26)] (.slice none 0 0) [] ∧ (t.f0.take j).all Q.rU = true)
   case atStart => exact ⟨0,Nat.zero_add _,rfl,M5.out,rfl⟩
   case round =>
    clear M5 p2
    rename World => w14
    obtain ⟨j,hj,rfl,M14,hok⟩:=hrel
    have wJ:=ah.mk M14
    have Ec:=Lib.hid hok
    clear M14 hok
    have p2:=wJ.out.mem.mem.cell 0 rfl 2
    by_cases hjl : j < t.f0.length
    ·obtain ⟨G5,rfl⟩ : ∃ g,gk = g + 1:=⟨gk - 1,by omega⟩
     have HG2:=Lib.hid hj
     obtain ⟨x,hx⟩ : ∃ x,t.f0[j]? = some x:=⟨_,List.getElem?_eq_getElem hjl⟩
     have hrd : wM t.f0 (j : Int) = x:=by unfold wM; rw [Int.toNat_natCast,List.getD_eq_getElem?_getD,hx]; rfl
     have HX:=Lib.hid hx
     have qj : (j : Int) < (t.f0.length : Int):=by omega
     have W4:=Lib.hid (show wrap64 ((j : Int) + 1) = ((j + 1 : Nat) : Int) by rw [Int.natCast_add]; exact IntWalk.wrap64_in _ (by have:=VD.out; omega))
     obtain ⟨Ut,rfl,x0,x1,x2,x3⟩:=KU Yo.out (j : Int) (by omega) qj
     rw [Int.toNat_natCast] at x0 x1 x2 x3
     rw [hrd] at x0 x1 x2 x3
     have HB1:=Lib.hid wJ.out.below
     have yt:=(HB1.out.cell (World.block_lt_of_cell? w _ HX0.out)).trans HX0.out
     have y0:=(HB1.out.cell (World.block_lt_of_cell? w _ x0)).trans x0
     have y1:=(HB1.out.cell (World.block_lt_of_cell? w _ x1)).trans x1
     have y2:=(HB1.out.cell (World.block_lt_of_cell? w _ x2)).trans x2
     have y3:=(HB1.out.cell (World.block_lt_of_cell? w _ x3)).trans x3
     clear hrd hx hjl hj x0 x1 x2 x3 HB1
     go_wp2_with (first
      | ((with_reducible refine bI (N:=5) rfl ?_); refine yB wJ 5 #[.bool false,.int .i64 0,.int .i64 0,.int .i64 0] 46 ?_; clear wJ; intro g5 wb BF)
      | ((with_reducible refine aU (t:=46) (p:=5) rfl ?_); refine yR BF 46 5 1 #[.bool x.f0,.int .i64 x.f1,.int .i64 x.f2,.int .i64 x.f3] ?_; clear BF y0 y1 y2 y3 yt; intro wc BM; have z1:=BM.out.mem.mem.cell 1 rfl 1)
      | fail)
     cases h1 : Q.vH x.f1 with
     | false =>
      have HR:=Lib.hid (show Q.jA l0 l1 l2 = false from Q.FX (Q.BA HT.out (by rw [List.all_eq_false]; exact ⟨x,List.mem_of_getElem? HX.out,by unfold Q.rU; rw [h1]; simp⟩)))
      refine (GA.iO.calls x.f1 false _ (by rw [Q.CX,h1])).mono ?_
      rintro e' W17 ⟨rfl,hdn⟩
      have RX:=ah.mk (BM.out.call (iF hdn))
      clear hdn BM z1 h1
      go_wp2
      go_ret
      rw [HR.out]
      exact ⟨rfl,RX.out.below⟩
     | true =>
     refine (GA.iO.calls x.f1 true _ (by rw [Q.CX,h1])).mono ?_
     rintro e' W17 ⟨rfl,hdn⟩
     have RX:=ah.mk (BM.out.call (iF hdn))
     have H1:=Lib.hid h1
     clear BM z1 h1
     have z2:=RX.out.mem.mem.cell 1 rfl 2
     go_wp2_with fail
     cases h2 : Q.vH x.f2 with
     | false =>
      have HR:=Lib.hid (show Q.jA l0 l1 l2 = false from Q.FX (Q.BA HT.out (by rw [List.all_eq_false]; exact ⟨x,List.mem_of_getElem? HX.out,by unfold Q.rU; rw [h2]; simp⟩)))
      refine (GA.iO.calls x.f2 false _ (by rw [Q.CX,h2])).mono ?_
      rintro e' W19 ⟨rfl,hdn⟩
      have Uo:=ah.mk (RX.out.call (iF hdn))
      clear hdn RX z2 h2
      go_wp2
      go_ret
      rw [HR.out]
      exact ⟨rfl,Uo.out.below⟩
     | true =>
     refine (GA.iO.calls x.f2 true _ (by rw [Q.CX,h2])).mono ?_
     rintro e' W19 ⟨rfl,hdn⟩
     have Uo:=ah.mk (RX.out.call (iF hdn))
     have H2:=Lib.hid h2
     clear RX z2 h2
     have z0:=Uo.out.mem.mem.cell 1 rfl 0
     cases hs : x.f0 with
     | true =>
      rw [hs] at z0
      have HC:=Lib.hid (show Q.rU x = true by unfold Q.rU; rw [H1.out,H2.out,hs]; rfl)
      clear hs
      go_wp2
      go_roundg G5
      case measure => omega
      case rel => exact ⟨j + 1,by have:=HG2.out; omega,by rw [W4.out],Uo.out.forget 1,Q.wG HX.out Ec.out HC.out⟩
     | false =>
      rw [hs] at z0
      have HS:=Lib.hid hs
      clear hs
      have z3:=Uo.out.mem.mem.cell 1 rfl 3
      go_wp2_with fail
      cases h3 : Q.vH x.f3 with
      | false =>
       have HR:=Lib.hid (show Q.jA l0 l1 l2 = false from Q.FX (Q.BA HT.out (by rw [List.all_eq_false]; exact ⟨x,List.mem_of_getElem? HX.out,by unfold Q.rU; rw [h3,HS.out]; simp⟩)))
       refine (GA.iO.calls x.f3 false _ (by rw [Q.CX,h3])).mono ?_
       rintro e' W20 ⟨rfl,hdn⟩
       have VE:=ah.mk (Uo.out.call (iF hdn))
       clear hdn Uo z0 z3 h3
       go_wp2
       go_ret
       rw [HR.out]
       exact ⟨rfl,VE.out.below⟩
      | true =>
       have HC:=Lib.hid (show Q.rU x = true by unfold Q.rU; rw [H1.out,H2.out,HS.out,h3]; rfl)
       refine (GA.iO.calls x.f3 true _ (by rw [Q.CX,h3])).mono ?_
       rintro e' W20 ⟨rfl,hdn⟩
       have VE:=ah.mk (Uo.out.call (iF hdn))
       clear hdn Uo z0 z3 h3
       go_wp2
       go_roundg G5
       case measure => omega
       case rel => exact ⟨j + 1,by have:=HG2.out; omega,by rw [W4.out],VE.out.forget 1,Q.wG HX.out Ec.out HC.out⟩
    ·obtain rfl : j = t.f0.length:=by omega
     have qj : ¬ (t.f0.length : Int) < (t.f0.length : Int):=by omega
     have yt:=(wJ.out.below.cell (World.block_lt_of_cell? w _ HX0.out)).trans HX0.out
     clear hjl hj
     go_wp2
     go_roundg Ep
     case measure => omega
     case rel => exact ⟨i + 1,by have:=HG.out; omega,by rw [W3.out],wJ.out,by rw [Q.GU HT.out,Qq.out]; have h:=Ec.out; rw [List.take_length] at h; rw [h]; rfl⟩
  ·obtain rfl : i = l2.length:=by omega
   have HTO:=Lib.hid (show Q.qX l2 = true by have h:=Qq.out; rwa [List.take_length] at h)
   have qi : ¬ (l2.length : Int) < (l2.length : Int):=by omega
   clear hil hi Qq
   have p1:=M5.out.mem.mem.cell 0 rfl 1
   go_wp2_with fail
   clear p2
   go_loopg [6] l1.length (fun g v6 wr => ∃ (j : Nat) (at_ : Int),j + g = l1.length ∧ v6 = .int .i64 j ∧ jo w wr [(g1,#[.slice A0 l0.length c0,.slice A1 l1.length c1,.slice A2 l2.length c2],26)] (.slice none 0 0) [] ∧ (l1.take j).all (Q.xq l0 l1 l2.length) = true ∧ Q.dG l0.length at_ (l1.drop j) = true ∧ 0 ≤ at_ ∧ at_ ≤ (l0.length : Int))
   case atStart => exact ⟨0,0,Nat.zero_add _,rfl,M5.out,rfl,by rw [List.drop_zero]; exact Q.Cc Yt.out,Int.le_refl _,by omega⟩
   case round =>
    clear M5 p1
    rename World => w7
    obtain ⟨j,at_,hj,rfl,M7,hok,hparts,ha0,ha1⟩:=hrel
    have M8:=ah.mk M7
    have Qq:=Lib.hid hok
    clear M7 hok
    have p1:=M8.out.mem.mem.cell 0 rfl 1
    by_cases hjl : j < l1.length
    ·obtain ⟨Ep,rfl⟩ : ∃ g,gk = g + 1:=⟨gk - 1,by omega⟩
     have HG:=Lib.hid hj
     obtain ⟨f,hf⟩ : ∃ f,l1[j]? = some f:=⟨_,List.getElem?_eq_getElem hjl⟩
     have hdr : l1.drop j = f :: l1.drop (j + 1):=by
      obtain ⟨a1,a2⟩:=List.getElem?_eq_some_iff.1 hf
      rw [List.drop_eq_getElem_cons a1,a2]
     rw [hdr] at hparts
     obtain ⟨rfl,hp2,hp3,WU⟩:=Q.xR hparts
     have HFX:=Lib.hid hf
     have HP4:=Lib.hid WU
     have HF:=Lib.hid (And.intro ha0 (And.intro hp2 hp3))
     have qj : (j : Int) < (l1.length : Int):=by omega
     have W6:=Lib.hid (show wrap64 ((j : Int) + 1) = ((j + 1 : Nat) : Int) by rw [Int.natCast_add]; exact IntWalk.wrap64_in _ (by have:=HF0.out.h1; omega))
     obtain ⟨ad,rfl,x0,x1⟩:=DK HP.out.g1 (j : Int) (by omega) qj
     rw [Int.toNat_natCast] at x0 x1
     rw [Q.Jk hf] at x0 x1
     have HX0:=Lib.hid x0
     have JF:=Lib.hid x1
     have y0:=(M8.out.below.cell (World.block_lt_of_cell? w _ x0)).trans x0
     clear hf hjl hj x0 x1 WU hp2 hp3 ha0 ha1 hdr hparts
     go_wp2_with fail
     clear y0
     go_loopg [7] (f.f1 - f.f0).toNat (fun g v7 wr => ∃ (i : Nat),i + g = (f.f1 - f.f0).toNat ∧ v7 = .int .i64 (f.f0 + i) ∧ jo w wr [(g1,#[.slice A0 l0.length c0,.slice (some ad) l1.length c1,.slice A2 l2.length c2],26)] (.slice none 0 0) [] ∧ ((Q.wordsOf l0 f).take i).all (Q.okW l1.length l2.length f.f0 f.f1) = true)
     case atStart => exact ⟨0,Nat.zero_add _,by rw [Int.natCast_zero,Int.add_zero],M8.out,rfl⟩
     case round =>
      clear M8 p1
      rename World => Qg
      obtain ⟨i,hi,rfl,M11,hok⟩:=hrel
      have M12:=ah.mk M11
      have Ec:=Lib.hid hok
      clear M11 hok
      have p1:=M12.out.mem.mem.cell 0 rfl 1
      have y1:=(M12.out.below.cell (World.block_lt_of_cell? w _ JF.out)).trans JF.out
      by_cases hil : (i : Int) < f.f1 - f.f0
      ·obtain ⟨G5,rfl⟩ : ∃ g,gk = g + 1:=⟨gk - 1,by omega⟩
       have HG2:=Lib.hid hi
       obtain ⟨x,hx,hxd,hxm⟩:=Q.CJ (l0:=l0) (f:=f) (i:=i) HF.out.1 hil HF.out.2.2
       have HXI:=Lib.hid (show (Q.wordsOf l0 f)[i]? = some x by
        have h:=congrArg (fun l => l[0]?) hxd
        simpa using h)
       have HXM:=Lib.hid hxm
       have Om:=Lib.hid (HW.out x (List.mem_of_getElem? hx))
       have qa : f.f0 + (i : Int) < f.f1:=by omega
       have q0 : (0 : Int) ≤ f.f0 + (i : Int):=by have:=HF.out.1; omega
       have q1 : f.f0 + (i : Int) < (l0.length : Int):=by have:=HF.out.2.2; omega
       have W7:=Lib.hid (show wrap64 (f.f0 + (i : Int) + 1) = f.f0 + ((i + 1 : Nat) : Int) by rw [IntWalk.wrap64_in _ (by have:=HF0.out.h0; omega)]; omega)
       obtain ⟨Ut,rfl,hcell⟩:=Kd.tN HP.out.g0 (f.f0 + (i : Int)) q0 q1
       have hrx : rd l0 (f.f0 + (i : Int)) = x:=by
        unfold rd
        rw [show (f.f0 + (i : Int)).toNat = f.f0.toNat + i by have:=HF.out.1; omega,List.getD_eq_getElem?_getD,hx]; rfl
       rw [hrx] at hcell
       have yc:=(M12.out.below.cell (World.block_lt_of_cell? _ _ hcell)).trans hcell
       have p0:=M12.out.mem.mem.cell 0 rfl 0
       obtain ⟨o,a1,a2,a3,m,e,hdec⟩ : ∃ o a1 a2 a3 m e,Q.su x = (o,a1,a2,a3,m,e):=⟨_,_,_,_,_,_,rfl⟩
       have HD:=Lib.hid (show dJ.f x = some (o,a1,a2,a3,m,e) by rw [← hdec]; exact Q.NP Om.out.1 Om.out.2)
       have Dt:=Lib.hid (show Q.AZ x = o ∧ Q.uz x = m ∧ Q.rV x = e by unfold Q.AZ Q.uz Q.rV; rw [hdec]; exact ⟨rfl,rfl,rfl⟩)
       clear hx hxd hxm hil hi hrx hcell hdec
       go_wp2_with fail
       refine (GA.dJ.calls x o a1 a2 a3 m e _ HD.out).mono ?_
       rintro e' W13 ⟨rfl,Wn⟩
       have M13:=ah.mk (M12.out.call Wn)
       clear M12 Wn p1 p0 yc y1
       by_cases he : e = 0
       ·subst he
        go_wp2_with (first
         | ((with_reducible refine bI (N:=8) rfl ?_); refine yB M13 8 #[.int .i64 0,.int .i64 0,.int .i64 0,.int .i64 0,.int .i64 0] 70 ?_; clear M13; intro g8 wb M14)
         | ((with_reducible refine aU (t:=70) (p:=8) rfl ?_); refine yR M14 70 8 1 #[.int .i64 o,.int .i64 a1,.int .i64 a2,.int .i64 a3,.int .i64 m] ?_; clear M14; intro wc wJ; have t0:=wJ.out.mem.mem.cell 1 rfl 0)
         | fail)
        rcases Q.PZ o with hp | hp | hp | hp
        ·have Qr:=Lib.hid hp.2
         have Yn:=Lib.hid (show Q.okW l1.length l2.length f.f0 f.f1 x = (decide (f.f0 ≤ m) && decide (m < f.f1)) from Q.Nu Dt.out.2.2 (by unfold Q.fitsV; rw [Dt.out.1,hp.1,Dt.out.2.1,if_pos rfl]))
         clear hp
         refine (GA.bQ.calls 2 o _ _ Qr.out).mono ?_
         rintro e' W16 ⟨rfl,hdn⟩
         have BF:=ah.mk (wJ.out.call (iF hdn))
         clear hdn wJ t0
         go_wp2_with fail
         have HKK:=Lib.hid (show Know [(⟨g8,4,none⟩,.int .i64 m),(⟨g1,1,none⟩,.slice (some ad) l1.length c1),(ad.add (j * 2),.int .i64 f.f0),(⟨(ad.add (j * 2)).block,(ad.add (j * 2)).off + 1,none⟩,.int .i64 f.f1)] W16 from fun c hc => by
          simp only [List.mem_cons,List.not_mem_nil,or_false] at hc
          rcases hc with rfl | rfl | rfl | rfl
          ·exact BF.out.mem.mem.cell 1 rfl 4
          ·exact BF.out.mem.mem.cell 0 rfl 1
          ·exact (BF.out.below.cell (World.block_lt_of_cell? w _ HX0.out)).trans HX0.out
          ·exact (BF.out.below.cell (World.block_lt_of_cell? w _ JF.out)).trans JF.out)
         refine N9 [] _ BF HKK.out (fun w' MD HK => ?_)
         clear BF HKK
         by_cases hlo : m < f.f0
         ·have HR:=Lib.hid (show Q.jA l0 l1 l2 = false from Q.Bj (List.mem_of_getElem? HFX.out) HXM.out (by rw [Yn.out,decide_eq_false (by omega)]; rfl))
          refine kP 0 100 (.pointer (some ⟨g8,4,none⟩)) ?_
          simp only [Act.put,bF,bH,bG]
          refine kE HK 1 101 0 ?_
          simp only [Act.put,bF,bH,bG]
          refine kP 2 102 (.pointer (some ⟨g1,1,none⟩)) ?_
          simp only [Act.put,bF,bH,bG]
          refine kE HK 3 103 1 ?_
          simp only [Act.put,bF,bH,bG]
          refine kP 4 104 (.int .i64 (j : Int)) ?_
          simp only [Act.put,bF,bH,bG]
          refine kP 5 105 (.pointer (some (ad.add (j * 2)))) ?_
          simp only [Act.put,bF,bH,bG]
          refine kP 6 106 (.pointer (some (ad.add (j * 2)))) ?_
          simp only [Act.put,bF,bH,bG]
          refine kE HK 7 107 2 ?_
          simp only [Act.put,bF,bH,bG]
          refine kP 8 108 (.bool (decide (m < f.f0))) ?_
          simp only [Act.put,bF,bH,bG]
          rw [decide_eq_true hlo]
          refine kP 9 109 (.bool true) ?_
          simp only [Act.put,bF,bH,bG]
          refine kN 10 110 ?_
          simp only [Act.put,bF,bH,bG]
          refine kN 11 111 ?_
          simp only [Act.put,bF,bH,bG]
          refine kN 12 112 ?_
          simp only [Act.put,bF,bH,bG]
          refine kN 13 113 ?_
          simp only [Act.put,bF,bH,bG]
          refine kN 14 114 ?_
          simp only [Act.put,bF,bH,bG]
          refine kN 15 115 ?_
          simp only [Act.put,bF,bH,bG]
          refine kN 16 116 ?_
          simp only [Act.put,bF,bH,bG]
          refine kN 17 117 ?_
          simp only [Act.put,bF,bH,bG]
          refine kN 18 118 ?_
          simp only [Act.put,bF,bH,bG]
          refine kP 19 119 (.bool true) ?_
          simp only [Act.put,bF,bH,bG]
          refine iG ?_
          go_wp2
          go_ret
          rw [HR.out]
          exact ⟨rfl,MD.out.below⟩
         ·by_cases hhi : m ≥ f.f1
          ·have HR:=Lib.hid (show Q.jA l0 l1 l2 = false from Q.Bj (List.mem_of_getElem? HFX.out) HXM.out (by rw [Yn.out,decide_eq_false (show ¬ m < f.f1 by omega),Bool.and_false]))
           refine kP 0 100 (.pointer (some ⟨g8,4,none⟩)) ?_
           simp only [Act.put,bF,bH,bG]
           refine kE HK 1 101 0 ?_
           simp only [Act.put,bF,bH,bG]
           refine kP 2 102 (.pointer (some ⟨g1,1,none⟩)) ?_
           simp only [Act.put,bF,bH,bG]
           refine kE HK 3 103 1 ?_
           simp only [Act.put,bF,bH,bG]
           refine kP 4 104 (.int .i64 (j : Int)) ?_
           simp only [Act.put,bF,bH,bG]
           refine kP 5 105 (.pointer (some (ad.add (j * 2)))) ?_
           simp only [Act.put,bF,bH,bG]
           refine kP 6 106 (.pointer (some (ad.add (j * 2)))) ?_
           simp only [Act.put,bF,bH,bG]
           refine kE HK 7 107 2 ?_
           simp only [Act.put,bF,bH,bG]
           refine kP 8 108 (.bool (decide (m < f.f0))) ?_
           simp only [Act.put,bF,bH,bG]
           rw [decide_eq_false hlo]
           refine kP 9 109 (.bool false) ?_
           simp only [Act.put,bF,bH,bG]
           refine kP 10 110 (.pointer (some ⟨g8,4,none⟩)) ?_
           simp only [Act.put,bF,bH,bG]
           refine kE HK 11 111 0 ?_
           simp only [Act.put,bF,bH,bG]
           refine kP 12 112 (.pointer (some ⟨g1,1,none⟩)) ?_
           simp only [Act.put,bF,bH,bG]
           refine kE HK 13 113 1 ?_
           simp only [Act.put,bF,bH,bG]
           refine kP 14 114 (.int .i64 (j : Int)) ?_
           simp only [Act.put,bF,bH,bG]
           refine kP 15 115 (.pointer (some (ad.add (j * 2)))) ?_
           simp only [Act.put,bF,bH,bG]
           refine kP 16 116 (.pointer (some ⟨(ad.add (j * 2)).block,(ad.add (j * 2)).off + 1,none⟩)) ?_
           simp only [Act.put,bF,bH,bG]
           refine kE HK 17 117 3 ?_
           simp only [Act.put,bF,bH,bG]
           refine kP 18 118 (.bool (decide (m ≥ f.f1))) ?_
           simp only [Act.put,bF,bH,bG]
           rw [decide_eq_true hhi]
           refine kP 19 119 (.bool true) ?_
           simp only [Act.put,bF,bH,bG]
           refine iG ?_
           go_wp2
           go_ret
           rw [HR.out]
           exact ⟨rfl,MD.out.below⟩
          ·have HC:=Lib.hid (show Q.okW l1.length l2.length f.f0 f.f1 x = true by rw [Yn.out,decide_eq_true (show f.f0 ≤ m by omega),decide_eq_true (show m < f.f1 by omega)]; rfl)
           refine kP 0 100 (.pointer (some ⟨g8,4,none⟩)) ?_
           simp only [Act.put,bF,bH,bG]
           refine kE HK 1 101 0 ?_
           simp only [Act.put,bF,bH,bG]
           refine kP 2 102 (.pointer (some ⟨g1,1,none⟩)) ?_
           simp only [Act.put,bF,bH,bG]
           refine kE HK 3 103 1 ?_
           simp only [Act.put,bF,bH,bG]
           refine kP 4 104 (.int .i64 (j : Int)) ?_
           simp only [Act.put,bF,bH,bG]
           refine kP 5 105 (.pointer (some (ad.add (j * 2)))) ?_
           simp only [Act.put,bF,bH,bG]
           refine kP 6 106 (.pointer (some (ad.add (j * 2)))) ?_
           simp only [Act.put,bF,bH,bG]
           refine kE HK 7 107 2 ?_
           simp only [Act.put,bF,bH,bG]
           refine kP 8 108 (.bool (decide (m < f.f0))) ?_
           simp only [Act.put,bF,bH,bG]
           rw [decide_eq_false hlo]
           refine kP 9 109 (.bool false) ?_
           simp only [Act.put,bF,bH,bG]
           refine kP 10 110 (.pointer (some ⟨g8,4,none⟩)) ?_
           simp only [Act.put,bF,bH,bG]
           refine kE HK 11 111 0 ?_
           simp only [Act.put,bF,bH,bG]
           refine kP 12 112 (.pointer (some ⟨g1,1,none⟩)) ?_
           simp only [Act.put,bF,bH,bG]
           refine kE HK 13 113 1 ?_
           simp only [Act.put,bF,bH,bG]
           refine kP 14 114 (.int .i64 (j : Int)) ?_
           simp only [Act.put,bF,bH,bG]
           refine kP 15 115 (.pointer (some (ad.add (j * 2)))) ?_
           simp only [Act.put,bF,bH,bG]
           refine kP 16 116 (.pointer (some ⟨(ad.add (j * 2)).block,(ad.add (j * 2)).off + 1,none⟩)) ?_
           simp only [Act.put,bF,bH,bG]
           refine kE HK 17 117 3 ?_
           simp only [Act.put,bF,bH,bG]
           refine kP 18 118 (.bool (decide (m ≥ f.f1))) ?_
           simp only [Act.put,bF,bH,bG]
           rw [decide_eq_false hhi]
           refine kP 19 119 (.bool false) ?_
           simp only [Act.put,bF,bH,bG]
           refine iG ?_
           go_wp2
           go_roundg G5
           case measure => omega
           case rel => exact ⟨i + 1,by have:=HG2.out; omega,by rw [W7.out],MD.out.forget 1,Q.wG HXI.out Ec.out HC.out⟩
        ·have Qr:=Lib.hid hp.2
         have Yn:=Lib.hid (show Q.okW l1.length l2.length f.f0 f.f1 x = decide (m < l1.length) from Q.Nu Dt.out.2.2 (by unfold Q.fitsV; rw [Dt.out.1,hp.1,Dt.out.2.1,if_neg (by decide),if_pos rfl]))
         clear hp
         refine (GA.bQ.calls 2 o _ _ Qr.out).mono ?_
         rintro e' W16 ⟨rfl,hdn⟩
         have BF:=ah.mk (wJ.out.call (iF hdn))
         clear hdn wJ t0
         have t4:=BF.out.mem.mem.cell 1 rfl 4
         have p1:=BF.out.mem.mem.cell 0 rfl 1
         by_cases hm : (l1.length : Int) ≤ m
         ·have HR:=Lib.hid (show Q.jA l0 l1 l2 = false from Q.Bj (List.mem_of_getElem? HFX.out) HXM.out (by rw [Yn.out,decide_eq_false (by omega)]))
          go_wp2
          go_ret
          rw [HR.out]
          exact ⟨rfl,BF.out.below⟩
         ·have HC:=Lib.hid (show Q.okW l1.length l2.length f.f0 f.f1 x = true by rw [Yn.out,decide_eq_true (by omega)])
          go_wp2
          go_roundg G5
          case measure => omega
          case rel => exact ⟨i + 1,by have:=HG2.out; omega,by rw [W7.out],BF.out.forget 1,Q.wG HXI.out Ec.out HC.out⟩
        ·have Qr:=Lib.hid hp.2
         have Yn:=Lib.hid (show Q.okW l1.length l2.length f.f0 f.f1 x = decide (m < l2.length) from Q.Nu Dt.out.2.2 (by unfold Q.fitsV; rw [Dt.out.1,hp.1,Dt.out.2.1,if_neg (by decide),if_neg (by decide),if_pos rfl]))
         clear hp
         refine (GA.bQ.calls 2 o _ _ Qr.out).mono ?_
         rintro e' W16 ⟨rfl,hdn⟩
         have BF:=ah.mk (wJ.out.call (iF hdn))
         clear hdn wJ t0
         have t4:=BF.out.mem.mem.cell 1 rfl 4
         have p2:=BF.out.mem.mem.cell 0 rfl 2
         by_cases hm : (l2.length : Int) ≤ m
         ·have HR:=Lib.hid (show Q.jA l0 l1 l2 = false from Q.Bj (List.mem_of_getElem? HFX.out) HXM.out (by rw [Yn.out,decide_eq_false (by omega)]))
          go_wp2
          go_ret
          rw [HR.out]
          exact ⟨rfl,BF.out.below⟩
         ·have HC:=Lib.hid (show Q.okW l1.length l2.length f.f0 f.f1 x = true by rw [Yn.out,decide_eq_true (by omega)])
          go_wp2
          go_roundg G5
          case measure => omega
          case rel => exact ⟨i + 1,by have:=HG2.out; omega,by rw [W7.out],BF.out.forget 1,Q.wG HXI.out Ec.out HC.out⟩
        ·have Qr:=Lib.hid hp.2
         have HC:=Lib.hid (show Q.okW l1.length l2.length f.f0 f.f1 x = true from Q.Nu Dt.out.2.2 (by unfold Q.fitsV; rw [Dt.out.1,hp.1,if_neg (by decide),if_neg (by decide),if_neg (by decide)]))
         clear hp
         refine (GA.bQ.calls 2 o _ _ Qr.out).mono ?_
         rintro e' W16 ⟨rfl,hdn⟩
         have BF:=ah.mk (wJ.out.call (iF hdn))
         clear hdn wJ t0
         go_wp2
         go_roundg G5
         case measure => omega
         case rel => exact ⟨i + 1,by have:=HG2.out; omega,by rw [W7.out],BF.out.forget 1,Q.wG HXI.out Ec.out HC.out⟩
       ·have HC:=Lib.hid (show Q.okW l1.length l2.length f.f0 f.f1 x = true from Q.ac5 (by rw [Dt.out.2.2]; exact he))
        go_wp2_with (first
         | ((with_reducible refine bI (N:=8) rfl ?_); refine yB M13 8 #[.int .i64 0,.int .i64 0,.int .i64 0,.int .i64 0,.int .i64 0] 70 ?_; clear M13; intro g8 wb M14)
         | ((with_reducible refine aU (t:=70) (p:=8) rfl ?_); refine yR M14 70 8 1 #[.int .i64 o,.int .i64 a1,.int .i64 a2,.int .i64 a3,.int .i64 m] ?_; clear M14; intro wc wJ)
         | fail)
        go_roundg G5
        case measure => omega
        case rel => exact ⟨i + 1,by have:=HG2.out; omega,by rw [W7.out],wJ.out.forget 1,Q.wG HXI.out Ec.out HC.out⟩
      ·have qa : ¬ f.f0 + (i : Int) < f.f1:=by omega
       have hie : i = (f.f1 - f.f0).toNat:=by omega
       have HWO:=Lib.hid (show Q.xq l0 l1 l2.length f = true by
        have h:=Ec.out
        rw [List.take_of_length_le (by rw [Q.xE HF.out.1 (by have:=HF.out.2.1; omega) HF.out.2.2,hie]; exact Nat.le_refl _)] at h
        exact h)
       clear hil hi hie Ec
       go_wp2
       go_roundg Ep
       case measure => omega
       case rel => exact ⟨j + 1,f.f1,by have:=HG.out; omega,by rw [W6.out],M12.out,Q.wG HFX.out Qq.out HWO.out,HP4.out,by have:=HF.out; omega,HF.out.2.2⟩
    ·obtain rfl : j = l1.length:=by omega
     have HR:=Lib.hid (show Q.jA l0 l1 l2 = true by
      have h:=Qq.out
      rw [List.take_length] at h
      unfold Q.jA
      rw [Yt.out,HTO.out,h]; rfl)
     have qj : ¬ (l1.length : Int) < (l1.length : Int):=by omega
     clear hjl hj hparts ha0 ha1 Qq
     go_wp2
     go_ret
     rw [HR.out]
     exact ⟨rfl,M8.out.below⟩
end Go.Proofs.YtdbpglhdicmhhaaGreatDoor.qp
end
