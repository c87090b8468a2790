import Derived.Test.YtdbpglhdicmhhaaGreatDoorMPr4
import Derived.Test.YtdbpglhdicmhhaaGreatDoorMPr15
import Derived.Test.YtdbpglhdicmhhaaGreatDoorMPr17
set_option maxHeartbeats 8000000
set_option maxRecDepth 100000
set_option linter.unusedVariables false
set_option linter.unusedSimpArgs false
section
namespace Go.Proofs.YtdbpglhdicmhhaaGreatDoor.GA
open Go.RowKit Go.Proofs.YtdbpglhdicmhhaaGreatDoorW.aI Go.Proofs.YtdbpglhdicmhhaaGreatDoorW.aX Go.Proofs.YtdbpglhdicmhhaaGreatDoorW.aZ
mutual
def aY.j0 : Nat → Int → Bool → List Int → List (jw) → List (qB) → Option (ByteArray × Int)
 | 0,_,_,_,_,_ => none
 | k + 1,x1,x24,Uf,ahI,ahJ => if x24 = true then (some ((⟨#[]⟩ : ByteArray),1)) else (if 0 ≤ x1 then (if x1 < (Uf.length : Int) then ((dQ.f (rd Uf x1)).bind fun ru => (if ru.2.2.2.2.2 = 0 then ((uy.f ru.1).bind fun Oy => ((eF.f ru.1).bind fun II => ((dF.f II.1).bind fun rJ => ((some (([ru.2.1,ru.2.2.1,ru.2.2.2.1] : List Int) : List Int)).bind fun uY => (if 0 ≤ rJ.1 then (if rJ.1 ≤ (uY.length : Int) then ((some (uY.take (rJ.1 : Int).toNat : List Int)).bind fun qY => (aY.l0 k Oy.1 rJ.2 qY (qY.length : Int) 0 ru.1 ru.2.1 ru.2.2.1 ru.2.2.2.1 ru.2.2.2.2.1)) else (none)) else (none)))))) else (some ((⟨#[]⟩ : ByteArray),ru.2.2.2.2.2)))) else (none)) else (none))
def aY.l0 : Nat → ByteArray → Bool → List Int → Int → Int → Int → Int → Int → Int → Int → Option (ByteArray × Int)
 | 0,_,_,_,_,_,_,_,_,_,_ => none
 | k + 1,x8,xG,x62,x63,x64,Ug,aal,aam,aan,Uh => if x64 < x63 then (if 0 ≤ x64 then (if x64 < (x62.length : Int) then ((eG.f (rd x62 x64)).bind fun Di => (if 2 + Di.size ≤ 9223372036854775807 then (if x8.size + ((⟨#[32,114]⟩ : ByteArray) ++ Di).size ≤ 9223372036854775807 then (aY.l0 k (x8 ++ ((⟨#[32,114]⟩ : ByteArray) ++ Di)) xG x62 x63 (wrap64 (x64 + 1)) Ug aal aam aan Uh) else (none)) else (none))) else (none)) else (none)) else (if xG = true then ((aW.f k Ug).bind fun uV => (if 1 + uV.size ≤ 9223372036854775807 then ((eG.f Uh).bind fun xk => (if ((⟨#[32]⟩ : ByteArray) ++ uV).size + xk.size ≤ 9223372036854775807 then (if x8.size + (((⟨#[32]⟩ : ByteArray) ++ uV) ++ xk).size ≤ 9223372036854775807 then (some (x8 ++ (((⟨#[32]⟩ : ByteArray) ++ uV) ++ xk),0)) else (none)) else (none))) else (none))) else (some (x8,0)))
end
def aY.f (k : Nat) (dK : List Int) (fK : List (jw)) (eP : List (qB)) (a1 : Int) : Option (ByteArray × Int):=if a1 < 0 then (aY.j0 k a1 true dK fK eP) else (aY.j0 k a1 (decide (a1 ≥ (dK.length : Int))) dK fK eP)
theorem aY.BZ : ∀ k,(∀ y0 y1 y2 y3 y4,rH (aY.j0 k y0 y1 y2 y3 y4) (aY.j0 (k + 1) y0 y1 y2 y3 y4)) ∧ (∀ y0 y1 y2 y3 y4 y5 y6 y7 y8 y9,rH (aY.l0 k y0 y1 y2 y3 y4 y5 y6 y7 y8 y9) (aY.l0 (k + 1) y0 y1 y2 y3 y4 y5 y6 y7 y8 y9))
 | 0 => ⟨fun _ _ _ _ _ r h => by simp [aY.j0] at h,fun _ _ _ _ _ _ _ _ _ _ r h => by simp [aY.l0] at h⟩
 | k + 1 => by
  obtain ⟨O8,ih1⟩:=aY.BZ k
  refine ⟨?_,?_⟩
  ·intro y0 y1 y2 y3 y4
   unfold aY.j0
   repeat' first
   | (with_reducible exact O8 _ _ _ _ _)
   | (with_reducible exact ih1 _ _ _ _ _ _ _ _ _ _)
   | (with_reducible exact aW.mono _ _)
   | (with_reducible exact rH.refl _)
   | (with_reducible exact rH.none _)
   | (with_reducible refine rH.ite ?_ ?_)
   | (with_reducible refine rH.bind ?_ (fun _ => ?_))
   | exact O8 _ _ _ _ _
   | exact ih1 _ _ _ _ _ _ _ _ _ _
   | exact aW.mono _ _
   | exact rH.none _
   | refine rH.ite ?_ ?_
   | refine rH.bind ?_ (fun _ => ?_)
  ·intro y0 y1 y2 y3 y4 y5 y6 y7 y8 y9
   unfold aY.l0
   repeat' first
   | (with_reducible exact O8 _ _ _ _ _)
   | (with_reducible exact ih1 _ _ _ _ _ _ _ _ _ _)
   | (with_reducible exact aW.mono _ _)
   | (with_reducible exact rH.refl _)
   | (with_reducible exact rH.none _)
   | (with_reducible refine rH.ite ?_ ?_)
   | (with_reducible refine rH.bind ?_ (fun _ => ?_))
   | exact O8 _ _ _ _ _
   | exact ih1 _ _ _ _ _ _ _ _ _ _
   | exact aW.mono _ _
   | exact rH.none _
   | refine rH.ite ?_ ?_
   | refine rH.bind ?_ (fun _ => ?_)
def aY.T15 : Bool × List (List Nat × List Nat):=(true,[([],[]),([],[]),([1],[1]),([2],[2]),([3],[3]),([],[]),([5],[5]),([6,3],[6]),([4,7],[4,7]),([0,8],[0,8]),([9,7,0,1,2,3,4,5,6,7,8,9],[0,9])])
def aY.B15 : List Nat:=[0,0,2,6,14,0,32,110,254,511,1023]
theorem aY.afL : wZ .any (opsOf Tryz.f13 15) = aY.T15:=by kernel_rfl
theorem aY.abD : BD aY.T15.2 aY.B15 = true:=by kernel_rfl
theorem aY.calls (k : Nat) (wS : Option Addr) (iY : Nat) (dK : List Int) (iV : Option Addr) (iZ : Nat) (fK : List (jw)) (iW : Option Addr) (jc : Nat) (eP : List (qB)) (a1 : Int) (r1 : ByteArray) (r2 : Int) (w : World) (uP : Laid.Af w) (Gx : Kd.C (Kd.int .u32) w wS dK.length dK) (Gu : dK.length ≤ iY) (Gy : Kd.C Xj w iV fK.length fK) (Gv : fK.length ≤ iZ) (Gz : Kd.C Xl w iW eP.length eP) (Gw : eP.length ≤ jc) (h : aY.f k dK fK eP a1 = some (r1,r2)) :
  Calls Tryz.prog 13 #[.agg #[.slice wS dK.length iY,.slice iV fK.length iZ,.slice iW eP.length jc],.int .i64 a1] w fun e w' => e = .returned (.tuple #[.string r1,.int .i64 r2]) ∧ Below w.heap.size w w':=by
 have afj:=Tryz.underlying26
 have I9:=Tryz.underlying70
 have J3:=ah.mk Gx
 have aau:=ah.mk Gu
 clear Gx Gu
 have aay:=ah.mk Gy
 have aav:=ah.mk Gv
 clear Gy Gv
 have VB:=ah.mk Gz
 have aaw:=ah.mk Gw
 clear Gz Gw
 have HB:=ah.mk (Below.refl w.heap.size w)
 have H : (if a1 < 0 then (aY.j0 k a1 true dK fK eP) else (aY.j0 k a1 (decide (a1 ≥ (dK.length : Int))) dK fK eP)) = some (r1,r2):=h
 clear h
 have HC3:=ah.mk H
 clear H
 go_enter Tryz.func13,Tryz.ntmps13
 go_upto_region 1 with (first | ((with_reducible refine bI (N:=2) rfl ?_); (try (refine tV (by rfl) ?_; dsimp only)); refine dV ?hg (N:=2) ?hd (cs:=#[.slice wS dK.length iY,.slice iV fK.length iZ,.slice iW eP.length jc]) (t:=26) ?hr ?_; (case hd => rfl); (case hg => rfl); (case hr => first | (go_simp; done) | (go_simp; rfl)); intro qh hg w4 hbox hb; have n0_:=ah.mk (bP (by repeat (first | (with_reducible first | exact HB.out | apply ak | apply aj | apply ay) | exact HB.out)) hb); have n1_:=ah.mk (hbox); have n2_:=ah.mk ((by rw [hg]; exact (bV (by repeat (first | (with_reducible first | exact HB.out | apply ak | apply aj | apply ay) | exact HB.out))) : w.heap.size ≤ qh)); have n3_:=ah.mk ((by rw [hg]; exact (bV (by repeat (first | (with_reducible first | exact HB.out | apply ak | apply aj | apply ay) | exact HB.out))) : w.heap.size ≤ qh)); clear HB; have HB:=n0_; have eH:=n1_; have ajK:=n2_; have rG:=n3_; clear n0_ n1_ n2_ n3_; clear hb hbox hg))
 (try simp only [Act.put,bF,bH,bG])
 go_cut [24] (fun v24 wc => ∃ (kq : Nat) (Ud : Bool),v24 = .bool Ud ∧ ah (aY.j0 kq a1 Ud dK fK eP = some (r1,r2)) ∧ ah (kq ≤ k) ∧ ah (wc.heap[qh]? = some (.cells #[(.slice wS dK.length iY),(.slice iV fK.length iZ),(.slice iW eP.length jc)] 26 (0,0))) ∧ ah (Below w.heap.size w wc))
 case first =>
  have H:=HC3.out
  clear HC3
  by_cases c5 : a1 < 0
  ·rw [if_pos c5] at H
   have rZ : decide (a1 < 0) = true:=decide_eq_true c5
   clear c5
   (first | rw [rZ] | (simp only [fJ,fH]; rw [rZ]) | skip)
   have H':=ah.mk H
   clear H
   go_wp2
   go_meet
   case rel => exact ⟨_,(true),(by first | rfl | (simp; done) | (simp [*]; done)),H',⟨by first | omega | exact Nat.le_refl _⟩,⟨by (with_reducible repeat (first | refine aG ?_ _ | refine aQ ?_ | refine aC ?_ _)); exact eH.out⟩,⟨by repeat (first | (with_reducible first | exact HB.out | apply ak | apply aj | apply ay | refine aN ?_ rG.out) | exact HB.out)⟩⟩
  ·rw [if_neg c5] at H
   have rZ : decide (a1 < 0) = false:=decide_eq_false c5
   clear c5
   (first | rw [rZ] | (simp only [fJ,fH]; rw [rZ]) | skip)
   have H':=ah.mk H
   clear H
   have Ah : w4.cell? ⟨qh,0,none⟩ = some (.slice wS dK.length iY):=(aA eH.out 0).trans rfl
   have Aj : w4.cell? ⟨qh,1,none⟩ = some (.slice iV fK.length iZ):=(aA eH.out 1).trans rfl
   have Ak : w4.cell? ⟨qh,2,none⟩ = some (.slice iW eP.length jc):=(aA eH.out 2).trans rfl
   have Am:=au eH.out 0
   have Ap:=au eH.out 1
   have Aq:=au eH.out 2
   go_wp2
   go_meet
   case rel => exact ⟨_,(decide (a1 ≥ (dK.length : Int))),(by first | rfl | (simp; done) | (simp [*]; done)),H',⟨by first | omega | exact Nat.le_refl _⟩,⟨by (with_reducible repeat (first | refine aG ?_ _ | refine aQ ?_ | refine aC ?_ _)); exact eH.out⟩,⟨by repeat (first | (with_reducible first | exact HB.out | apply ak | apply aj | apply ay | refine aN ?_ rG.out) | exact HB.out)⟩⟩
 case rest =>
  clear HC3
  try clear c1
  try clear p2
  try clear c5
  try clear rZ
  try clear Ah
  try clear Aj
  try clear Ak
  try clear Am
  try clear Ap
  try clear Aq
  obtain ⟨kq,Ud,rfl,HA,HJ2,eH,HB⟩:=hcut
  cases kq with
  | zero => exact absurd HA.out (by simp [aY.j0])
  | succ DV =>
   have H:=HA.out
   clear HA
   simp only [aY.j0] at H
   by_cases c7 : Ud = true
   ·subst c7
    have H1 : (some ((⟨#[]⟩ : ByteArray),1)) = some (r1,r2):=by rw [if_pos rfl] at H; exact H
    clear H
    have H:=H1
    clear H1
    simp only [Option.some.injEq,Prod.mk.injEq] at H
    obtain ⟨rfl,rfl⟩:=H
    go_wp2
    go_ret2
    exact ⟨by first | rfl | (simp [bZ,cO] <;> rfl) | (simp [*,bZ,cO] <;> rfl),by repeat (first | (with_reducible first | exact HB.out | apply ak | apply aj | apply ay | refine aN ?_ rG.out) | exact HB.out)⟩
   ·replace c7:=Bool.eq_false_iff.mpr c7
    subst c7
    have H1 : (if 0 ≤ a1 then (if a1 < (dK.length : Int) then ((dQ.f (rd dK a1)).bind fun ru => (if ru.2.2.2.2.2 = 0 then ((uy.f ru.1).bind fun Oy => ((eF.f ru.1).bind fun II => ((dF.f II.1).bind fun rJ => ((some (([ru.2.1,ru.2.2.1,ru.2.2.2.1] : List Int) : List Int)).bind fun uY => (if 0 ≤ rJ.1 then (if rJ.1 ≤ (uY.length : Int) then ((some (uY.take (rJ.1 : Int).toNat : List Int)).bind fun qY => (aY.l0 DV Oy.1 rJ.2 qY (qY.length : Int) 0 ru.1 ru.2.1 ru.2.2.1 ru.2.2.2.1 ru.2.2.2.2.1)) else (none)) else (none)))))) else (some ((⟨#[]⟩ : ByteArray),ru.2.2.2.2.2)))) else (none)) else (none)) = some (r1,r2):=by rw [if_neg (show ¬ (false = true) by decide)] at H; exact H
    clear H
    have H:=H1
    clear H1
    by_cases c8 : 0 ≤ a1
    ·rw [if_pos c8] at H
     have Uz : decide (0 ≤ a1) = true:=decide_eq_true c8
     clear c8
     by_cases c9 : a1 < (dK.length : Int)
     ·rw [if_pos c9] at H
      have GZ : decide (a1 < (dK.length : Int)) = true:=decide_eq_true c9
      clear c9
      replace H:=Option.bind_eq_some_iff.mp H
      obtain ⟨⟨sO,tY,uD,uU,xY,NV⟩,Og,H⟩:=H
      replace H : (if NV = 0 then ((uy.f sO).bind fun Oy => ((eF.f sO).bind fun II => ((dF.f II.1).bind fun rJ => ((some (([tY,uD,uU] : List Int) : List Int)).bind fun uY => (if 0 ≤ rJ.1 then (if rJ.1 ≤ (uY.length : Int) then ((some (uY.take (rJ.1 : Int).toNat : List Int)).bind fun qY => (aY.l0 DV Oy.1 rJ.2 qY (qY.length : Int) 0 sO tY uD uU xY)) else (none)) else (none)))))) else (some ((⟨#[]⟩ : ByteArray),NV))) = some (r1,r2):=H
      have Yi:=ah.mk Og
      clear Og
      by_cases c11 : NV = 0
      ·rw [if_pos c11] at H
       have Dw : (NV == 0) = true:=beq_iff_eq.mpr c11
       have Ei : (NV != 0) = false:=bne_eq_false_iff_eq.mpr c11
       clear c11
       replace H:=Option.bind_eq_some_iff.mp H
       obtain ⟨⟨Rx,ajl⟩,Vm,H⟩:=H
       replace H : ((eF.f sO).bind fun II => ((dF.f II.1).bind fun rJ => ((some (([tY,uD,uU] : List Int) : List Int)).bind fun uY => (if 0 ≤ rJ.1 then (if rJ.1 ≤ (uY.length : Int) then ((some (uY.take (rJ.1 : Int).toNat : List Int)).bind fun qY => (aY.l0 DV Rx rJ.2 qY (qY.length : Int) 0 sO tY uD uU xY)) else (none)) else (none))))) = some (r1,r2):=H
       have A12:=ah.mk Vm
       clear Vm
       replace H:=Option.bind_eq_some_iff.mp H
       obtain ⟨⟨Z9,ajm⟩,Oh,H⟩:=H
       replace H : ((dF.f Z9).bind fun rJ => ((some (([tY,uD,uU] : List Int) : List Int)).bind fun uY => (if 0 ≤ rJ.1 then (if rJ.1 ≤ (uY.length : Int) then ((some (uY.take (rJ.1 : Int).toNat : List Int)).bind fun qY => (aY.l0 DV Rx rJ.2 qY (qY.length : Int) 0 sO tY uD uU xY)) else (none)) else (none)))) = some (r1,r2):=H
       have A13:=ah.mk Oh
       clear Oh
       replace H:=Option.bind_eq_some_iff.mp H
       obtain ⟨⟨Cm,Ry⟩,Vo,H⟩:=H
       replace H : ((some (([tY,uD,uU] : List Int) : List Int)).bind fun uY => (if 0 ≤ Cm then (if Cm ≤ (uY.length : Int) then ((some (uY.take (Cm : Int).toNat : List Int)).bind fun qY => (aY.l0 DV Rx Ry qY (qY.length : Int) 0 sO tY uD uU xY)) else (none)) else (none))) = some (r1,r2):=H
       have A14:=ah.mk Vo
       clear Vo
       obtain ⟨uY,OZ⟩ : ∃ y_ : List Int,y_ = (([tY,uD,uU] : List Int)):=⟨_,rfl⟩
       replace H : (if 0 ≤ Cm then (if Cm ≤ (uY.length : Int) then ((some (uY.take (Cm : Int).toNat : List Int)).bind fun qY => (aY.l0 DV Rx Ry qY (qY.length : Int) 0 sO tY uD uU xY)) else (none)) else (none)) = some (r1,r2):=by first | (rw [OZ]; with_reducible exact H) | (have H2_:=(Option.bind_some _ _).symm.trans H; rw [OZ]; with_reducible exact H2_) | (have H2_:=(Option.bind_some _ _).symm.trans H; with_reducible exact H2_) | with_reducible exact H | (rw [OZ]; exact H) | exact H
       have aaD:=ah.mk OZ
       clear OZ
       by_cases c15 : 0 ≤ Cm
       ·rw [if_pos c15] at H
        have aaK:=eq_true c15
        have aeP : decide (0 ≤ Cm) = true:=decide_eq_true c15
        clear c15
        by_cases c16 : Cm ≤ (uY.length : Int)
        ·rw [if_pos c16] at H
         have VP:=eq_true c16
         have aeQ : decide (Cm ≤ (uY.length : Int)) = true:=decide_eq_true c16
         clear c16
         obtain ⟨qY,O1⟩ : ∃ y_ : List Int,y_ = (uY.take (Cm : Int).toNat):=⟨_,rfl⟩
         replace H : (aY.l0 DV Rx Ry qY (qY.length : Int) 0 sO tY uD uU xY) = some (r1,r2):=by first | (rw [O1]; with_reducible exact H) | (have H2_:=(Option.bind_some _ _).symm.trans H; rw [O1]; with_reducible exact H2_) | (have H2_:=(Option.bind_some _ _).symm.trans H; with_reducible exact H2_) | with_reducible exact H | (rw [O1]; exact H) | exact H
         have aaE:=ah.mk O1
         clear O1
         have H':=ah.mk H
         clear H
         have Y4 : wc.cell? ⟨qh,0,none⟩ = some (.slice wS dK.length iY):=(aA eH.out 0).trans rfl
         have Y5 : wc.cell? ⟨qh,1,none⟩ = some (.slice iV fK.length iZ):=(aA eH.out 1).trans rfl
         have Y6 : wc.cell? ⟨qh,2,none⟩ = some (.slice iW eP.length jc):=(aA eH.out 2).trans rfl
         have Zr:=au eH.out 0
         have Zt:=au eH.out 1
         have Zu:=au eH.out 2
         have PI : 0 ≤ (a1 : Int):=of_decide_eq_true (by first | (with_reducible assumption) | assumption)
         have PU : a1 < (dK.length : Int):=of_decide_eq_true (by first | (with_reducible assumption) | assumption)
         obtain ⟨xI,ab5,zU⟩:=Kd.tN J3.out a1 PI PU
         cases ab5
         try replace zU:=(HB.out.cell (World.block_lt_of_cell? w _ zU)).trans zU
         replace PI:=eq_true PI
         replace PU:=eq_true PU
         go_wp2_with (first | ((with_reducible refine dn (f:=34) rfl ?_); refine goesL_ (some 31) rfl rfl Tryz.func34 (by kernel_rfl) rfl #[.int .u32 (rd dK a1)] rfl (by (try simp only [List.map_toArray,List.map_cons,List.map_nil]); first | done | rfl | (simp only [List.length_drop,List.length_take]; rfl)) ?_; (with_reducible refine (dQ.calls (rd dK a1) sO tY uD uU xY NV _ Yi.out).mono ?_); rintro e Oe ⟨rfl,hb⟩; refine ⟨_,rfl,?_⟩; have n0_:=ah.mk (bU (g:=qh) (o:=.cells #[.slice (some xI) dK.length iY,.slice iV fK.length iZ,.slice iW eP.length jc] 26 (0,0)) (by (with_reducible repeat (first | refine aG ?_ _ | refine aQ ?_ | refine aC ?_ _)); exact eH.out) hb); have n1_:=ah.mk (bP (by repeat (first | (with_reducible first | exact HB.out | apply ak | apply aj | apply ay | refine aN ?_ rG.out) | exact HB.out)) hb); clear eH; clear HB; have eH:=n0_; have HB:=n1_; clear n0_ n1_; (try clear hb); (try clear hb2); (try clear hk); (try clear hi)) | ((with_reducible refine bI (N:=6) rfl ?_); (try (refine tV (by rfl) ?_; dsimp only)); refine dV ?hg (N:=6) ?hd (cs:=#[.int .i64 0,.int .i64 0,.int .i64 0,.int .i64 0,.int .i64 0]) (t:=70) ?hr ?_; (case hd => rfl); (case hg => rfl); (case hr => first | (go_simp; done) | (go_simp; rfl)); intro iL hg Yh hbox hb; have n0_:=ah.mk (bU (g:=qh) (o:=.cells #[.slice (some xI) dK.length iY,.slice iV fK.length iZ,.slice iW eP.length jc] 26 (0,0)) (by (with_reducible repeat (first | refine aG ?_ _ | refine aQ ?_ | refine aC ?_ _)); exact eH.out) hb); have n1_:=ah.mk (bP (by repeat (first | (with_reducible first | exact HB.out | apply ak | apply aj | apply ay | refine aN ?_ rG.out) | exact HB.out)) hb); have n2_:=ah.mk (hbox); have n3_:=ah.mk ((by rw [hg]; exact (bV (by repeat (first | (with_reducible first | exact HB.out | apply ak | apply aj | apply ay | refine aN ?_ rG.out) | exact HB.out))) : w.heap.size ≤ iL)); have n4_:=ah.mk ((by rw [hg]; exact (bV (by repeat (first | (with_reducible first | exact HB.out | apply ak | apply aj | apply ay | refine aN ?_ rG.out) | exact HB.out))) : w.heap.size ≤ iL)); have n5_:=ah.mk ((by rw [hg]; exact Nat.ne_of_lt (je (g:=qh) (o:=.cells #[.slice (some xI) dK.length iY,.slice iV fK.length iZ,.slice iW eP.length jc] 26 (0,0)) (by (with_reducible repeat (first | refine aG ?_ _ | refine aQ ?_ | refine aC ?_ _)); exact eH.out)) : qh ≠ iL)); have n6_:=ah.mk ((by rw [hg]; exact Nat.ne_of_gt (je (g:=qh) (o:=.cells #[.slice (some xI) dK.length iY,.slice iV fK.length iZ,.slice iW eP.length jc] 26 (0,0)) (by (with_reducible repeat (first | refine aG ?_ _ | refine aQ ?_ | refine aC ?_ _)); exact eH.out)) : iL ≠ qh)); clear eH; clear HB; have eH:=n0_; have HB:=n1_; have dI:=n2_; have aea:=n3_; have zN:=n4_; have ug:=n5_; have FH:=n6_; clear n0_ n1_ n2_ n3_ n4_ n5_ n6_; clear hb hbox hg; have akZ:=FH.out; have ak8:=ug.out; have Tc : Yh.cell? ⟨iL,0,none⟩ = some (.int .i64 0):=(aA dI.out 0).trans rfl; have Td : Yh.cell? ⟨iL,1,none⟩ = some (.int .i64 0):=(aA dI.out 1).trans rfl; have Tf : Yh.cell? ⟨iL,2,none⟩ = some (.int .i64 0):=(aA dI.out 2).trans rfl; have Ti : Yh.cell? ⟨iL,3,none⟩ = some (.int .i64 0):=(aA dI.out 3).trans rfl; have Tj : Yh.cell? ⟨iL,4,none⟩ = some (.int .i64 0):=(aA dI.out 4).trans rfl; have Tq:=au dI.out 0; have Tt:=au dI.out 1; have Tv:=au dI.out 2; have Tz:=au dI.out 3; have TA:=au dI.out 4) | ((with_reducible refine dn (f:=35) rfl ?_); refine goesL_ (some 40) rfl rfl Tryz.func35 (by kernel_rfl) rfl #[.int .i64 sO] rfl (by (try simp only [List.map_toArray,List.map_cons,List.map_nil]); first | done | rfl | (simp only [List.length_drop,List.length_take]; rfl)) ?_; (with_reducible refine (uy.calls sO Rx ajl _ A12.out).mono ?_); rintro e w22 ⟨rfl,hb⟩; refine ⟨_,rfl,?_⟩; have n0_:=ah.mk (bU (g:=qh) (o:=.cells #[.slice (some xI) dK.length iY,.slice iV fK.length iZ,.slice iW eP.length jc] 26 (0,0)) (by (with_reducible repeat (first | refine aG ?_ _ | refine aQ ?_ | refine aC ?_ _)); refine dU ?_ ug.out _; (with_reducible repeat (first | refine aG ?_ _ | refine aQ ?_ | refine aC ?_ _)); refine dU ?_ ug.out _; (with_reducible repeat (first | refine aG ?_ _ | refine aQ ?_ | refine aC ?_ _)); refine dU ?_ ug.out _; (with_reducible repeat (first | refine aG ?_ _ | refine aQ ?_ | refine aC ?_ _)); refine dU ?_ ug.out _; (with_reducible repeat (first | refine aG ?_ _ | refine aQ ?_ | refine aC ?_ _)); refine dU ?_ ug.out _; (with_reducible repeat (first | refine aG ?_ _ | refine aQ ?_ | refine aC ?_ _)); exact eH.out) hb); have n1_:=ah.mk (bU (g:=iL) (o:=.cells #[.int .i64 sO,.int .i64 tY,.int .i64 uD,.int .i64 uU,.int .i64 xY] 70 (0,0)) (by (with_reducible repeat (first | refine aG ?_ _ | refine aQ ?_ | refine aC ?_ _)); refine bg (cs:=#[.int .i64 sO,.int .i64 tY,.int .i64 uD,.int .i64 uU,.int .i64 0]) ?_ 4 _ rfl; (with_reducible repeat (first | refine aG ?_ _ | refine aQ ?_ | refine aC ?_ _)); refine bg (cs:=#[.int .i64 sO,.int .i64 tY,.int .i64 uD,.int .i64 0,.int .i64 0]) ?_ 3 _ rfl; (with_reducible repeat (first | refine aG ?_ _ | refine aQ ?_ | refine aC ?_ _)); refine bg (cs:=#[.int .i64 sO,.int .i64 tY,.int .i64 0,.int .i64 0,.int .i64 0]) ?_ 2 _ rfl; (with_reducible repeat (first | refine aG ?_ _ | refine aQ ?_ | refine aC ?_ _)); refine bg (cs:=#[.int .i64 sO,.int .i64 0,.int .i64 0,.int .i64 0,.int .i64 0]) ?_ 1 _ rfl; (with_reducible repeat (first | refine aG ?_ _ | refine aQ ?_ | refine aC ?_ _)); refine bg (cs:=#[.int .i64 0,.int .i64 0,.int .i64 0,.int .i64 0,.int .i64 0]) ?_ 0 _ rfl; (with_reducible repeat (first | refine aG ?_ _ | refine aQ ?_ | refine aC ?_ _)); exact dI.out) hb); have n2_:=ah.mk (bP (by repeat (first | (with_reducible first | exact HB.out | apply ak | apply aj | apply ay | refine aN ?_ rG.out | refine aN ?_ zN.out) | exact HB.out)) hb); clear eH; clear dI; clear HB; have eH:=n0_; have dI:=n1_; have HB:=n2_; clear n0_ n1_ n2_; (try clear hb); (try clear hb2); (try clear hk); (try clear hi); have Y7 : w22.cell? ⟨iL,0,none⟩ = some (.int .i64 sO):=(aA dI.out 0).trans rfl; have Y8 : w22.cell? ⟨iL,1,none⟩ = some (.int .i64 tY):=(aA dI.out 1).trans rfl; have Y9 : w22.cell? ⟨iL,2,none⟩ = some (.int .i64 uD):=(aA dI.out 2).trans rfl; have Za : w22.cell? ⟨iL,3,none⟩ = some (.int .i64 uU):=(aA dI.out 3).trans rfl; have Zb : w22.cell? ⟨iL,4,none⟩ = some (.int .i64 xY):=(aA dI.out 4).trans rfl; have Zv:=au dI.out 0; have Zw:=au dI.out 1; have Zx:=au dI.out 2; have Zy:=au dI.out 3; have Zz:=au dI.out 4) | ((with_reducible refine dn (f:=36) rfl ?_); refine goesL_ (some 46) rfl rfl Tryz.func36 (by kernel_rfl) rfl #[.int .i64 sO] rfl (by (try simp only [List.map_toArray,List.map_cons,List.map_nil]); first | done | rfl | (simp only [List.length_drop,List.length_take]; rfl)) ?_; (with_reducible refine (eF.calls sO Z9 ajm _ A13.out).mono ?_); rintro e w24 ⟨rfl,hb⟩; refine ⟨_,rfl,?_⟩; have n0_:=ah.mk (bU (g:=qh) (o:=.cells #[.slice (some xI) dK.length iY,.slice iV fK.length iZ,.slice iW eP.length jc] 26 (0,0)) (by (with_reducible repeat (first | refine aG ?_ _ | refine aQ ?_ | refine aC ?_ _)); exact eH.out) hb); have n1_:=ah.mk (bU (g:=iL) (o:=.cells #[.int .i64 sO,.int .i64 tY,.int .i64 uD,.int .i64 uU,.int .i64 xY] 70 (0,0)) (by (with_reducible repeat (first | refine aG ?_ _ | refine aQ ?_ | refine aC ?_ _)); exact dI.out) hb); have n2_:=ah.mk (bP (by repeat (first | (with_reducible first | exact HB.out | apply ak | apply aj | apply ay | refine aN ?_ rG.out | refine aN ?_ zN.out) | exact HB.out)) hb); clear eH; clear dI; clear HB; have eH:=n0_; have dI:=n1_; have HB:=n2_; clear n0_ n1_ n2_; (try clear hb); (try clear hb2); (try clear hk); (try clear hi)) | ((with_reducible refine dn (f:=37) rfl ?_); refine goesL_ (some 51) rfl rfl Tryz.func37 (by kernel_rfl) rfl #[.int .i64 Z9] rfl (by (try simp only [List.map_toArray,List.map_cons,List.map_nil]); first | done | rfl | (simp only [List.length_drop,List.length_take]; rfl)) ?_; (with_reducible refine (dF.calls Z9 Cm Ry _ A14.out).mono ?_); rintro e w' ⟨rfl,⟨nd,rfl⟩⟩; refine ⟨_,rfl,?_⟩; have Zc : w24.cell? ⟨iL,0,none⟩ = some (.int .i64 sO):=(aA dI.out 0).trans rfl; have Zd : w24.cell? ⟨iL,1,none⟩ = some (.int .i64 tY):=(aA dI.out 1).trans rfl; have Ze : w24.cell? ⟨iL,2,none⟩ = some (.int .i64 uD):=(aA dI.out 2).trans rfl; have Zf : w24.cell? ⟨iL,3,none⟩ = some (.int .i64 uU):=(aA dI.out 3).trans rfl; have Zg : w24.cell? ⟨iL,4,none⟩ = some (.int .i64 xY):=(aA dI.out 4).trans rfl; have ZA:=au dI.out 0; have ZB:=au dI.out 1; have ZC:=au dI.out 2; have ZE:=au dI.out 3; have ZF:=au dI.out 4) | ((with_reducible refine bI (N:=60) rfl ?_); (try (refine tV (by rfl) ?_; dsimp only)); refine Kd.VF (Kd.int .i64) _ 3 ?hg (N:=60) ?hd (xs:=([tY,uD,uU] : List Int)) (inner:=[.int .i64 tY,.int .i64 uD,.int .i64 uU]) (ok:=fun _ => True) (Df:=fun _ => True) ?hr ?hp (fun _ hk => hk) trivial (Below.refl _ _) (Nat.le_refl _) (by simp) ?_; (case hd => rfl); (case hg => rfl); (case hr => first | (go_simp; done) | (go_simp; rfl)); (case hp => exact (gJ.one (show Kd.M (Kd.int .i64) _ _ _ tY [.int .i64 tY] from rfl) (gJ.one (show Kd.M (Kd.int .i64) _ _ _ uD [.int .i64 uD] from rfl) (gJ.one (show Kd.M (Kd.int .i64) _ _ _ uU [.int .i64 uU] from rfl) (gJ.none _ _))))); intro am8 w26 WT hb hg_ hnew_; clear hg_ hnew_; (first | rw [← aaD.out] at WT | (simp only [Int.reduceToNat] at WT; rw [← aaD.out] at WT)); have n0_:=ah.mk (Kd.Bd WT (bV (by repeat (first | (with_reducible first | exact HB.out | apply ak | apply aj | apply ay | refine aN ?_ rG.out | refine aN ?_ zN.out) | exact HB.out)))); have n1_:=ah.mk (bU (g:=qh) (o:=.cells #[.slice (some xI) dK.length iY,.slice iV fK.length iZ,.slice iW eP.length jc] 26 (0,0)) (by (with_reducible repeat (first | refine aG ?_ _ | refine aQ ?_ | refine aC ?_ _)); exact eH.out) hb); have n2_:=ah.mk (bU (g:=iL) (o:=.cells #[.int .i64 sO,.int .i64 tY,.int .i64 uD,.int .i64 uU,.int .i64 xY] 70 (0,0)) (by (with_reducible repeat (first | refine aG ?_ _ | refine aQ ?_ | refine aC ?_ _)); exact dI.out) hb); have n3_:=ah.mk (bP (by repeat (first | (with_reducible first | exact HB.out | apply ak | apply aj | apply ay | refine aN ?_ rG.out | refine aN ?_ zN.out) | exact HB.out)) hb); clear eH; clear dI; clear HB; have VA:=n0_; have eH:=n1_; have dI:=n2_; have HB:=n3_; clear n0_ n1_ n2_ n3_; clear hb WT; obtain ⟨aa9,abK,aiQ⟩:=Kd.iy VA.out; subst aiQ; have q28 : (Cm : Int) ≤ ((uY.length : Int) : Int):=of_decide_eq_true (by first | (with_reducible assumption) | assumption); obtain ⟨amP,aaU,_,afi,_⟩:=info_parts info3; have TK : uY.length ≤ abK:=(Kd.sV VA.out).2.1; have ae4 : Kd.C (Kd.int .i64) _ aa9 uY.length uY:=(Kd.sV VA.out).2.2; have acg:=abL (P:=Tryz.prog) 52 3 .i64 Tryz.underlying52 aaU aa9 uY.length abK Cm (of_decide_eq_true (by first | (with_reducible assumption) | assumption)) q28 TK; have acP:=Kd.abb (m:=(Cm : Int).toNat) ae4 (by omega); have hy28 : qY.length = (Cm : Int).toNat:=(by rw [aaE.out,List.length_take]; omega); rw [← aaE.out] at acP; rw [← hy28] at acg; have vF:=ah.mk acP; have ajO:=ah.mk (show qY.length ≤ abK from by omega); clear acP ae4 TK aaU afi; have amb:=ah.mk hy28; clear hy28; have ama:=ah.mk (show (Cm : Int).toNat ≤ uY.length from by omega); replace q28:=eq_true q28))
         go_loopg [8,64] DV (fun kq v8 v64 w' => ∃ (AB : ByteArray) (wI : Int),v8 = .string AB ∧ v64 = .int .i64 wI ∧ ah (aY.l0 kq AB Ry qY (qY.length : Int) wI sO tY uD uU xY = some (r1,r2)) ∧ ah (kq ≤ DV) ∧ ah (w'.heap[qh]? = some (.cells #[(.slice (some xI) dK.length iY),(.slice iV fK.length iZ),(.slice iW eP.length jc)] 26 (0,0))) ∧ ah (w'.heap[iL]? = some (.cells #[.int .i64 sO,.int .i64 tY,.int .i64 uD,.int .i64 uU,.int .i64 xY] 70 (0,0))) ∧ ah (Kd.C (Kd.int .i64) w' aa9 qY.length qY) ∧ ah (Below w.heap.size w w'))
         case atStart => exact ⟨(Rx),(0),(by first | rfl | (simp; done) | (simp [*]; done)),(by first | rfl | (simp; done) | (simp [*]; done)),H',⟨Nat.le_refl _⟩,⟨by (with_reducible repeat (first | refine aG ?_ _ | refine aQ ?_ | refine aC ?_ _)); exact eH.out⟩,⟨by (with_reducible repeat (first | refine aG ?_ _ | refine aQ ?_ | refine aC ?_ _)); exact dI.out⟩,⟨by repeat (first | (with_reducible exact vF.out) | (with_reducible refine Kd.He ?_ _) | (with_reducible refine Kd.Hf ?_ _) | (with_reducible refine Kd.Iq ?_) | exact vF.out)⟩,⟨by repeat (first | (with_reducible first | exact HB.out | apply ak | apply aj | apply ay | refine aN ?_ rG.out | refine aN ?_ zN.out) | exact HB.out)⟩⟩
         case round =>
          clear H'
          try clear c1
          try clear c2
          try clear p2
          try clear q2
          try clear c3
          try clear p4
          try clear q4
          try clear hx4
          try clear c5
          try clear rZ
          try clear c7
          try clear c8
          try clear Uz
          try clear c9
          try clear GZ
          try clear c11
          try clear Dw
          try clear Ei
          try clear c13
          try clear c15
          try clear aaK
          try clear aeP
          try clear c16
          try clear VP
          try clear aeQ
          try clear c20
          try clear q28
          try clear Y4
          try clear Y5
          try clear Y6
          try clear Tc
          try clear Td
          try clear Tf
          try clear Ti
          try clear Tj
          try clear Y7
          try clear Y8
          try clear Y9
          try clear Za
          try clear Zb
          try clear Zc
          try clear Zd
          try clear Ze
          try clear Zf
          try clear Zg
          try clear Ah
          try clear Aj
          try clear Ak
          try clear Zr
          try clear Zt
          try clear Zu
          try clear Tq
          try clear Tt
          try clear Tv
          try clear Tz
          try clear TA
          try clear Zv
          try clear Zw
          try clear Zx
          try clear Zy
          try clear Zz
          try clear ZA
          try clear ZB
          try clear ZC
          try clear ZE
          try clear ZF
          try clear Am
          try clear Ap
          try clear Aq
          try clear zU
          try clear p2
          try clear PI
          try clear q28
          try clear PU
          obtain ⟨AB,wI,rfl,rfl,HA,FC,eH,dI,vF,HB⟩:=hrel
          cases gk with
          | zero => exact absurd HA.out (by simp [aY.l0])
          | succ k2 =>
           have H:=HA.out
           clear HA
           simp only [aY.l0] at H
           by_cases c30 : wI < (qY.length : Int)
           ·rw [if_pos c30] at H
            have aeS : decide (wI < (qY.length : Int)) = true:=decide_eq_true c30
            clear c30
            by_cases c31 : 0 ≤ wI
            ·rw [if_pos c31] at H
             have akp : decide (0 ≤ wI) = true:=decide_eq_true c31
             clear c31
             by_cases c32 : wI < (qY.length : Int)
             ·rw [if_pos c32] at H
              have akq : decide (wI < (qY.length : Int)) = true:=decide_eq_true c32
              clear c32
              replace H:=Option.bind_eq_some_iff.mp H
              obtain ⟨Di,adV,H⟩:=H
              replace H : (if 2 + Di.size ≤ 9223372036854775807 then (if AB.size + ((⟨#[32,114]⟩ : ByteArray) ++ Di).size ≤ 9223372036854775807 then (aY.l0 k2 (AB ++ ((⟨#[32,114]⟩ : ByteArray) ++ Di)) Ry qY (qY.length : Int) (wrap64 (wI + 1)) sO tY uD uU xY) else (none)) else (none)) = some (r1,r2):=H
              have A33:=ah.mk adV
              clear adV
              by_cases c34 : 2 + Di.size ≤ 9223372036854775807
              ·rw [if_pos c34] at H
               have akr:=eq_true c34
               have aks : decide (2 + Di.size ≤ 9223372036854775807) = true:=decide_eq_true c34
               try have akt : (9223372036854775807 < 2 + Di.size) = False:=eq_false (Nat.not_lt.2 c34)
               by_cases OC : AB.size + ((⟨#[32,114]⟩ : ByteArray) ++ Di).size ≤ 9223372036854775807
               ·rw [if_pos OC] at H
                have SI:=eq_true OC
                have SK : decide (AB.size + ((⟨#[32,114]⟩ : ByteArray) ++ Di).size ≤ 9223372036854775807) = true:=decide_eq_true OC
                try have SL : (9223372036854775807 < AB.size + ((⟨#[32,114]⟩ : ByteArray) ++ Di).size) = False:=eq_false (Nat.not_lt.2 OC)
                have aeT : (9223372036854775807 < AB.size + (2 + Di.size)) = False:=eq_false (Nat.not_lt.2 (by have h_:=OC; simp only [ByteArray.size_append] at h_; exact h_))
                have H':=ah.mk H
                clear H
                have ada : 0 ≤ (wI : Int):=of_decide_eq_true (by first | (with_reducible assumption) | assumption)
                have adk : wI < (qY.length : Int):=of_decide_eq_true (by first | (with_reducible assumption) | assumption)
                obtain ⟨akc,aiN,Nk⟩:=Kd.tN vF.out wI ada adk
                cases aiN
                try replace Nk:=(HB.out.cell (World.block_lt_of_cell? w _ Nk)).trans Nk
                replace ada:=eq_true ada
                replace adk:=eq_true adk
                go_wp2_with (first | ((with_reducible refine dn (f:=38) rfl ?_); refine goesL_ (some 70) rfl rfl Tryz.func38 (by kernel_rfl) rfl #[.int .i64 (rd qY wI)] rfl (by (try simp only [List.map_toArray,List.map_cons,List.map_nil]); first | done | rfl | (simp only [List.length_drop,List.length_take]; rfl)) ?_; (with_reducible refine (eG.calls (rd qY wI) Di _ ?P7 A33.out).mono ?_); (case P7 => first | exact uP | exact uP.below (by repeat (first | (with_reducible first | exact HB.out | apply ak | apply aj | apply ay | refine aN ?_ rG.out | refine aN ?_ zN.out) | exact HB.out))); rintro e w36 ⟨rfl,hb⟩; refine ⟨_,rfl,?_⟩; have n0_:=ah.mk (bU (g:=qh) (o:=.cells #[.slice (some xI) dK.length iY,.slice iV fK.length iZ,.slice iW eP.length jc] 26 (0,0)) (by (with_reducible repeat (first | refine aG ?_ _ | refine aQ ?_ | refine aC ?_ _)); exact eH.out) hb); have n1_:=ah.mk (bU (g:=iL) (o:=.cells #[.int .i64 sO,.int .i64 tY,.int .i64 uD,.int .i64 uU,.int .i64 xY] 70 (0,0)) (by (with_reducible repeat (first | refine aG ?_ _ | refine aQ ?_ | refine aC ?_ _)); exact dI.out) hb); have n2_:=ah.mk (Kd.uF (by repeat (first | (with_reducible exact vF.out) | (with_reducible refine Kd.He ?_ _) | (with_reducible refine Kd.Hf ?_ _) | (with_reducible refine Kd.Iq ?_) | exact vF.out)) hb); have n3_:=ah.mk (bP (by repeat (first | (with_reducible first | exact HB.out | apply ak | apply aj | apply ay | refine aN ?_ rG.out | refine aN ?_ zN.out) | exact HB.out)) hb); clear eH; clear dI; clear vF; clear HB; have eH:=n0_; have dI:=n1_; have vF:=n2_; have HB:=n3_; clear n0_ n1_ n2_ n3_; (try clear hb); (try clear hb2); (try clear hk); (try clear hi)))
                go_roundg k2
                case measure => have:=HJ2.out; have:=FC.out; omega
                case rel => exact ⟨(AB ++ ((⟨#[32,114]⟩ : ByteArray) ++ Di)),(wrap64 (wI + 1)),(by first | rfl | (simp; done) | (simp [*]; done)),(by first | rfl | (simp; done) | (simp [*]; done)),H',⟨by have:=HJ2.out; have:=FC.out; omega⟩,⟨by (with_reducible repeat (first | refine aG ?_ _ | refine aQ ?_ | refine aC ?_ _)); exact eH.out⟩,⟨by (with_reducible repeat (first | refine aG ?_ _ | refine aQ ?_ | refine aC ?_ _)); exact dI.out⟩,⟨by repeat (first | (with_reducible exact vF.out) | (with_reducible refine Kd.He ?_ _) | (with_reducible refine Kd.Hf ?_ _) | (with_reducible refine Kd.Iq ?_) | exact vF.out)⟩,⟨by repeat (first | (with_reducible first | exact HB.out | apply ak | apply aj | apply ay | refine aN ?_ rG.out | refine aN ?_ zN.out) | exact HB.out)⟩⟩
               ·rw [if_neg OC] at H
                exact absurd H (by simp)
              ·rw [if_neg c34] at H
               exact absurd H (by simp)
             ·rw [if_neg c32] at H
              exact absurd H (by simp)
            ·rw [if_neg c31] at H
             exact absurd H (by simp)
           ·rw [if_neg c30] at H
            have aeS : decide (wI < (qY.length : Int)) = false:=decide_eq_false c30
            clear c30
            by_cases c37 : Ry = true
            ·subst c37
             have H1 : ((aW.f k2 sO).bind fun uV => (if 1 + uV.size ≤ 9223372036854775807 then ((eG.f xY).bind fun xk => (if ((⟨#[32]⟩ : ByteArray) ++ uV).size + xk.size ≤ 9223372036854775807 then (if AB.size + (((⟨#[32]⟩ : ByteArray) ++ uV) ++ xk).size ≤ 9223372036854775807 then (some (AB ++ (((⟨#[32]⟩ : ByteArray) ++ uV) ++ xk),0)) else (none)) else (none))) else (none))) = some (r1,r2):=by rw [if_pos rfl] at H; exact H
             clear H
             have H:=H1
             clear H1
             replace H:=Option.bind_eq_some_iff.mp H
             obtain ⟨uV,adX,H⟩:=H
             replace H : (if 1 + uV.size ≤ 9223372036854775807 then ((eG.f xY).bind fun xk => (if ((⟨#[32]⟩ : ByteArray) ++ uV).size + xk.size ≤ 9223372036854775807 then (if AB.size + (((⟨#[32]⟩ : ByteArray) ++ uV) ++ xk).size ≤ 9223372036854775807 then (some (AB ++ (((⟨#[32]⟩ : ByteArray) ++ uV) ++ xk),0)) else (none)) else (none))) else (none)) = some (r1,r2):=H
             have A38:=ah.mk adX
             clear adX
             by_cases c39 : 1 + uV.size ≤ 9223372036854775807
             ·rw [if_pos c39] at H
              have aku:=eq_true c39
              have akv : decide (1 + uV.size ≤ 9223372036854775807) = true:=decide_eq_true c39
              try have akw : (9223372036854775807 < 1 + uV.size) = False:=eq_false (Nat.not_lt.2 c39)
              replace H:=Option.bind_eq_some_iff.mp H
              obtain ⟨xk,adY,H⟩:=H
              replace H : (if ((⟨#[32]⟩ : ByteArray) ++ uV).size + xk.size ≤ 9223372036854775807 then (if AB.size + (((⟨#[32]⟩ : ByteArray) ++ uV) ++ xk).size ≤ 9223372036854775807 then (some (AB ++ (((⟨#[32]⟩ : ByteArray) ++ uV) ++ xk),0)) else (none)) else (none)) = some (r1,r2):=H
              have A40:=ah.mk adY
              clear adY
              by_cases QD : ((⟨#[32]⟩ : ByteArray) ++ uV).size + xk.size ≤ 9223372036854775807
              ·rw [if_pos QD] at H
               have VW:=eq_true QD
               have VX : decide (((⟨#[32]⟩ : ByteArray) ++ uV).size + xk.size ≤ 9223372036854775807) = true:=decide_eq_true QD
               try have VY : (9223372036854775807 < ((⟨#[32]⟩ : ByteArray) ++ uV).size + xk.size) = False:=eq_false (Nat.not_lt.2 QD)
               have akx : (9223372036854775807 < 1 + uV.size + xk.size) = False:=eq_false (Nat.not_lt.2 (by have h_:=QD; simp only [ByteArray.size_append] at h_; exact h_))
               by_cases YK : AB.size + (((⟨#[32]⟩ : ByteArray) ++ uV) ++ xk).size ≤ 9223372036854775807
               ·rw [if_pos YK] at H
                have aky:=eq_true YK
                have akz : decide (AB.size + (((⟨#[32]⟩ : ByteArray) ++ uV) ++ xk).size ≤ 9223372036854775807) = true:=decide_eq_true YK
                try have akA : (9223372036854775807 < AB.size + (((⟨#[32]⟩ : ByteArray) ++ uV) ++ xk).size) = False:=eq_false (Nat.not_lt.2 YK)
                have akB : (9223372036854775807 < AB.size + (1 + uV.size + xk.size)) = False:=eq_false (Nat.not_lt.2 (by have h_:=YK; simp only [ByteArray.size_append] at h_; exact h_))
                simp only [Option.some.injEq,Prod.mk.injEq] at H
                obtain ⟨rfl,rfl⟩:=H
                try go_wp2
                have n0_:=ah.mk (aQ eH.out)
                have n1_:=ah.mk (aQ dI.out)
                have n2_:=ah.mk (Kd.Iq vF.out)
                have n3_:=ah.mk (ay HB.out)
                clear eH
                clear dI
                clear vF
                clear HB
                have eH:=n0_
                have dI:=n1_
                have vF:=n2_
                have HB:=n3_
                clear n0_ n1_ n2_ n3_
                refine start_ (n:=11) (S:=fun w' => w'.cell? ⟨iL,0,none⟩ = some (.int .i64 sO) ∧ w'.cell? ⟨iL,1,none⟩ = some (.int .i64 tY) ∧ w'.cell? ⟨iL,2,none⟩ = some (.int .i64 uD) ∧ w'.cell? ⟨iL,3,none⟩ = some (.int .i64 uU) ∧ w'.cell? ⟨iL,4,none⟩ = some (.int .i64 xY)) (ds:=[]) #[false,false,false,false,false,false,false,false,false,false,false] (by kernel_rfl) rfl rfl ⟨(aA dI.out 0).trans rfl,(aA dI.out 1).trans rfl,(aA dI.out 2).trans rfl,(aA dI.out 3).trans rfl,(aA dI.out 4).trans rfl⟩ (fun hHeld => ?_); refine Gj aY.afL aY.abD (fun HT_ HW_ => ?_)
                generalize wr.drew = w43 at eH dI vF HB hHeld ⊢
                refine pure_ (i:=0) (N:=some 75) (v:=?_) (a':=?_) #[true,false,false,false,false,false,false,false,false,false,false] rfl rfl (qo HT_.out (by kernel_rfl)) (fun _ _ _ h => h) (Or.inl ⟨by rfl,?_⟩) ?_ ?_
                rotate_left
                ·intro w'
                 go_simp
                 with_reducible rfl
                rotate_left
                ·simp only [Act.put,bF,bH,bG,fJ,fH]
                 rfl
                refine pure_ (i:=1) (N:=some 76) (v:=?_) (a':=?_) #[true,true,false,false,false,false,false,false,false,false,false] rfl rfl (qo HT_.out (by kernel_rfl)) (fun _ _ _ h => h) (Or.inl ⟨by rfl,?_⟩) ?_ ?_
                rotate_left
                ·intro w'
                 go_simp
                 with_reducible rfl
                rotate_left
                ·simp only [Act.put,bF,bH,bG,fJ,fH]
                 rfl
                refine pure_ (i:=5) (N:=some 80) (v:=?_) (a':=?_) #[true,true,false,false,false,true,false,false,false,false,false] rfl rfl (qo HT_.out (by kernel_rfl)) (fun _ _ _ h => h) (Or.inl ⟨by rfl,?_⟩) ?_ ?_
                rotate_left
                ·intro w'
                 go_simp
                 with_reducible rfl
                rotate_left
                ·simp only [Act.put,bF,bH,bG,fJ,fH]
                 rfl
                refine take_ (i:=2) (N:=some 77) (v:=?_) (a':=?_) #[true,true,true,false,false,true,false,false,false,false,false] rfl rfl (Fq HT_.out HW_.out (by kernel_rfl)) (fun _ _ _ h => h) (Or.inl ⟨by rfl,?_⟩) hHeld ?_ ?_
                rotate_left
                ·rintro w' ⟨s0,s1,s2,s3,s4⟩
                 go_simp
                 with_reducible rfl
                rotate_left
                ·simp only [Act.put,bF,bH,bG,fJ,fH]
                 rfl
                refine take_ (i:=6) (N:=some 81) (v:=?_) (a':=?_) #[true,true,true,false,false,true,true,false,false,false,false] rfl rfl (Fq HT_.out HW_.out (by kernel_rfl)) (fun _ _ _ h => h) (Or.inl ⟨by rfl,?_⟩) hHeld ?_ ?_
                rotate_left
                ·rintro w' ⟨s0,s1,s2,s3,s4⟩
                 go_simp
                 with_reducible rfl
                rotate_left
                ·simp only [Act.put,bF,bH,bG,fJ,fH]
                 rfl
                refine one_ (i:=3) (N:=some 78) #[true,true,true,true,false,true,true,false,false,false,false] rfl rfl (Cb HT_.out (by kernel_rfl)) (by decide) (fun K hK => ?_)
                refine goes_ Tryz.func39 (by kernel_rfl) rfl #[.int .i64 sO] (by rfl) rfl rfl (by (try simp only [List.map_toArray,List.map_cons,List.map_nil]); first | done | rfl | (simp only [List.length_drop,List.length_take]; rfl)) ?_
                with_reducible refine (aW.calls k2 sO uV _ A38.out).mono ?_
                rintro e w' ⟨rfl,⟨nd,rfl⟩⟩
                refine ⟨_,rfl,?_⟩
                refine hK.out _ _ ⟨(aA dI.out 0).trans rfl,(aA dI.out 1).trans rfl,(aA dI.out 2).trans rfl,(aA dI.out 3).trans rfl,(aA dI.out 4).trans rfl⟩ (fun hHeld => ?_)
                clear hK K
                refine norm_ (a':=?_) ?_ ?_
                rotate_left
                ·show Act.put _ (some 78) _ = _
                 simp only [Act.put,bF,bH,bG,fJ,fH]
                 rfl
                refine pure_ (i:=4) (N:=some 79) (v:=?_) (a':=?_) #[true,true,true,true,true,true,true,false,false,false,false] rfl rfl (qo HT_.out (by kernel_rfl)) (fun _ _ _ h => h) (Or.inl ⟨by rfl,?_⟩) ?_ ?_
                rotate_left
                ·intro w'
                 go_simp
                 with_reducible rfl
                rotate_left
                ·simp only [Act.put,bF,bH,bG,fJ,fH]
                 rfl
                refine one_ (i:=7) (N:=some 82) #[true,true,true,true,true,true,true,true,false,false,false] rfl rfl (Cb HT_.out (by kernel_rfl)) (by decide) (fun K hK => ?_)
                refine goes_ Tryz.func38 (by kernel_rfl) rfl #[.int .i64 xY] (by rfl) rfl rfl (by (try simp only [List.map_toArray,List.map_cons,List.map_nil]); first | done | rfl | (simp only [List.length_drop,List.length_take]; rfl)) ?_
                with_reducible refine (eG.calls xY xk _ ?P7 A40.out).mono ?_
                (case P7 => first | exact uP | exact uP.below (by repeat (first | (with_reducible first | exact HB.out | apply ak | apply aj | apply ay | refine aN ?_ rG.out | refine aN ?_ zN.out) | exact HB.out)))
                rintro e w44 ⟨rfl,hb⟩
                refine ⟨_,rfl,?_⟩
                have n0_:=ah.mk (bU (g:=qh) (o:=.cells #[.slice (some xI) dK.length iY,.slice iV fK.length iZ,.slice iW eP.length jc] 26 (0,0)) (by (with_reducible repeat (first | refine aG ?_ _ | refine aQ ?_ | refine aC ?_ _)); exact eH.out) hb)
                have n1_:=ah.mk (bU (g:=iL) (o:=.cells #[.int .i64 sO,.int .i64 tY,.int .i64 uD,.int .i64 uU,.int .i64 xY] 70 (0,0)) (by (with_reducible repeat (first | refine aG ?_ _ | refine aQ ?_ | refine aC ?_ _)); exact dI.out) hb)
                have n2_:=ah.mk (Kd.uF (by repeat (first | (with_reducible exact vF.out) | (with_reducible refine Kd.He ?_ _) | (with_reducible refine Kd.Hf ?_ _) | (with_reducible refine Kd.Iq ?_) | exact vF.out)) hb)
                have n3_:=ah.mk (bP (by repeat (first | (with_reducible first | exact HB.out | apply ak | apply aj | apply ay | refine aN ?_ rG.out | refine aN ?_ zN.out) | exact HB.out)) hb)
                clear eH
                clear dI
                clear vF
                clear HB
                have eH:=n0_
                have dI:=n1_
                have vF:=n2_
                have HB:=n3_
                clear n0_ n1_ n2_ n3_
                (try clear hb)
                (try clear hb2)
                (try clear hk)
                (try clear hi)
                refine hK.out _ _ ⟨(aA dI.out 0).trans rfl,(aA dI.out 1).trans rfl,(aA dI.out 2).trans rfl,(aA dI.out 3).trans rfl,(aA dI.out 4).trans rfl⟩ (fun hHeld => ?_)
                clear hK K
                refine norm_ (a':=?_) ?_ ?_
                rotate_left
                ·show Act.put _ (some 82) _ = _
                 simp only [Act.put,bF,bH,bG,fJ,fH]
                 rfl
                refine pure_ (i:=8) (N:=some 83) (v:=?_) (a':=?_) #[true,true,true,true,true,true,true,true,true,false,false] rfl rfl (qo HT_.out (by kernel_rfl)) (fun _ _ _ h => h) (Or.inl ⟨by rfl,?_⟩) ?_ ?_
                rotate_left
                ·intro w'
                 go_simp
                 with_reducible rfl
                rotate_left
                ·simp only [Act.put,bF,bH,bG,fJ,fH]
                 rfl
                refine pure_ (i:=9) (N:=some 84) (v:=?_) (a':=?_) #[true,true,true,true,true,true,true,true,true,true,false] rfl rfl (qo HT_.out (by kernel_rfl)) (fun _ _ _ h => h) (Or.inl ⟨by rfl,?_⟩) ?_ ?_
                rotate_left
                ·intro w'
                 go_simp
                 with_reducible rfl
                rotate_left
                ·simp only [Act.put,bF,bH,bG,fJ,fH]
                 rfl
                refine pure_ (i:=10) (N:=some 8) (v:=?_) (a':=?_) #[true,true,true,true,true,true,true,true,true,true,true] rfl rfl (qo HT_.out (by kernel_rfl)) (fun _ _ _ h => h) (Or.inl ⟨by rfl,?_⟩) ?_ ?_
                rotate_left
                ·intro w'
                 go_simp
                 with_reducible rfl
                rotate_left
                ·simp only [Act.put,bF,bH,bG,fJ,fH]
                 rfl
                refine done_ (Ll HT_.out (by kernel_rfl)) ?_
                try go_wp2
                go_ret2
                exact ⟨by first | rfl | (simp [bZ,cO] <;> rfl) | (simp [*,bZ,cO] <;> rfl),by repeat (first | (with_reducible first | exact HB.out | apply ak | apply aj | apply ay | refine aN ?_ rG.out | refine aN ?_ zN.out) | exact HB.out)⟩
               ·rw [if_neg YK] at H
                exact absurd H (by simp)
              ·rw [if_neg QD] at H
               exact absurd H (by simp)
             ·rw [if_neg c39] at H
              exact absurd H (by simp)
            ·replace c37:=Bool.eq_false_iff.mpr c37
             subst c37
             have H1 : (some (AB,0)) = some (r1,r2):=by rw [if_neg (show ¬ (false = true) by decide)] at H; exact H
             clear H
             have H:=H1
             clear H1
             simp only [Option.some.injEq,Prod.mk.injEq] at H
             obtain ⟨rfl,rfl⟩:=H
             go_wp2
             go_ret2
             exact ⟨by first | rfl | (simp [bZ,cO] <;> rfl) | (simp [*,bZ,cO] <;> rfl),by repeat (first | (with_reducible first | exact HB.out | apply ak | apply aj | apply ay | refine aN ?_ rG.out | refine aN ?_ zN.out) | exact HB.out)⟩
        ·rw [if_neg c16] at H
         exact absurd H (by simp)
       ·rw [if_neg c15] at H
        exact absurd H (by simp)
      ·rw [if_neg c11] at H
       have Dw : (NV == 0) = false:=beq_eq_false_iff_ne.mpr c11
       have Ei : (NV != 0) = true:=bne_iff_ne.mpr c11
       simp only [Option.some.injEq,Prod.mk.injEq] at H
       obtain ⟨rfl,rfl⟩:=H
       have LV : wc.cell? ⟨qh,0,none⟩ = some (.slice wS dK.length iY):=(aA eH.out 0).trans rfl
       have LW : wc.cell? ⟨qh,1,none⟩ = some (.slice iV fK.length iZ):=(aA eH.out 1).trans rfl
       have LX : wc.cell? ⟨qh,2,none⟩ = some (.slice iW eP.length jc):=(aA eH.out 2).trans rfl
       have MS:=au eH.out 0
       have MW:=au eH.out 1
       have MX:=au eH.out 2
       have PI : 0 ≤ (a1 : Int):=of_decide_eq_true (by first | (with_reducible assumption) | assumption)
       have PU : a1 < (dK.length : Int):=of_decide_eq_true (by first | (with_reducible assumption) | assumption)
       obtain ⟨xI,ab5,zU⟩:=Kd.tN J3.out a1 PI PU
       cases ab5
       try replace zU:=(HB.out.cell (World.block_lt_of_cell? w _ zU)).trans zU
       replace PI:=eq_true PI
       replace PU:=eq_true PU
       go_wp2_with (first | ((with_reducible refine dn (f:=34) rfl ?_); refine goesL_ (some 31) rfl rfl Tryz.func34 (by kernel_rfl) rfl #[.int .u32 (rd dK a1)] rfl (by (try simp only [List.map_toArray,List.map_cons,List.map_nil]); first | done | rfl | (simp only [List.length_drop,List.length_take]; rfl)) ?_; (with_reducible refine (dQ.calls (rd dK a1) sO tY uD uU xY NV _ Yi.out).mono ?_); rintro e w46 ⟨rfl,hb⟩; refine ⟨_,rfl,?_⟩; have n0_:=ah.mk (bU (g:=qh) (o:=.cells #[.slice (some xI) dK.length iY,.slice iV fK.length iZ,.slice iW eP.length jc] 26 (0,0)) (by (with_reducible repeat (first | refine aG ?_ _ | refine aQ ?_ | refine aC ?_ _)); exact eH.out) hb); have n1_:=ah.mk (bP (by repeat (first | (with_reducible first | exact HB.out | apply ak | apply aj | apply ay | refine aN ?_ rG.out) | exact HB.out)) hb); clear eH; clear HB; have eH:=n0_; have HB:=n1_; clear n0_ n1_; (try clear hb); (try clear hb2); (try clear hk); (try clear hi)) | ((with_reducible refine bI (N:=6) rfl ?_); (try (refine tV (by rfl) ?_; dsimp only)); refine dV ?hg (N:=6) ?hd (cs:=#[.int .i64 0,.int .i64 0,.int .i64 0,.int .i64 0,.int .i64 0]) (t:=70) ?hr ?_; (case hd => rfl); (case hg => rfl); (case hr => first | (go_simp; done) | (go_simp; rfl)); intro iL hg w47 hbox hb; have n0_:=ah.mk (bU (g:=qh) (o:=.cells #[.slice (some xI) dK.length iY,.slice iV fK.length iZ,.slice iW eP.length jc] 26 (0,0)) (by (with_reducible repeat (first | refine aG ?_ _ | refine aQ ?_ | refine aC ?_ _)); exact eH.out) hb); have n1_:=ah.mk (bP (by repeat (first | (with_reducible first | exact HB.out | apply ak | apply aj | apply ay | refine aN ?_ rG.out) | exact HB.out)) hb); have n2_:=ah.mk (hbox); have n3_:=ah.mk ((by rw [hg]; exact (bV (by repeat (first | (with_reducible first | exact HB.out | apply ak | apply aj | apply ay | refine aN ?_ rG.out) | exact HB.out))) : w.heap.size ≤ iL)); have n4_:=ah.mk ((by rw [hg]; exact (bV (by repeat (first | (with_reducible first | exact HB.out | apply ak | apply aj | apply ay | refine aN ?_ rG.out) | exact HB.out))) : w.heap.size ≤ iL)); have n5_:=ah.mk ((by rw [hg]; exact Nat.ne_of_lt (je (g:=qh) (o:=.cells #[.slice (some xI) dK.length iY,.slice iV fK.length iZ,.slice iW eP.length jc] 26 (0,0)) (by (with_reducible repeat (first | refine aG ?_ _ | refine aQ ?_ | refine aC ?_ _)); exact eH.out)) : qh ≠ iL)); have n6_:=ah.mk ((by rw [hg]; exact Nat.ne_of_gt (je (g:=qh) (o:=.cells #[.slice (some xI) dK.length iY,.slice iV fK.length iZ,.slice iW eP.length jc] 26 (0,0)) (by (with_reducible repeat (first | refine aG ?_ _ | refine aQ ?_ | refine aC ?_ _)); exact eH.out)) : iL ≠ qh)); clear eH; clear HB; have eH:=n0_; have HB:=n1_; have dI:=n2_; have aea:=n3_; have zN:=n4_; have ug:=n5_; have FH:=n6_; clear n0_ n1_ n2_ n3_ n4_ n5_ n6_; clear hb hbox hg; have ak5:=FH.out; have ale:=ug.out; have agM : w47.cell? ⟨iL,0,none⟩ = some (.int .i64 0):=(aA dI.out 0).trans rfl; have agN : w47.cell? ⟨iL,1,none⟩ = some (.int .i64 0):=(aA dI.out 1).trans rfl; have agO : w47.cell? ⟨iL,2,none⟩ = some (.int .i64 0):=(aA dI.out 2).trans rfl; have agP : w47.cell? ⟨iL,3,none⟩ = some (.int .i64 0):=(aA dI.out 3).trans rfl; have agQ : w47.cell? ⟨iL,4,none⟩ = some (.int .i64 0):=(aA dI.out 4).trans rfl; have ahr:=au dI.out 0; have ahs:=au dI.out 1; have aht:=au dI.out 2; have ahu:=au dI.out 3; have ahv:=au dI.out 4))
       go_ret2
       exact ⟨by first | rfl | (simp [bZ,cO] <;> rfl) | (simp [*,bZ,cO] <;> rfl),by repeat (first | (with_reducible first | exact HB.out | apply ak | apply aj | apply ay | refine aN ?_ rG.out | refine aN ?_ zN.out) | exact HB.out)⟩
     ·rw [if_neg c9] at H
      exact absurd H (by simp)
    ·rw [if_neg c8] at H
     exact absurd H (by simp)
end Go.Proofs.YtdbpglhdicmhhaaGreatDoor.GA
end
