import Derived.Test.YtdbpglhdicmhhaaGreatDoorMPr4
import Derived.Test.YtdbpglhdicmhhaaGreatDoorMPr36
import Derived.Test.YtdbpglhdicmhhaaGreatDoorMPr16
import Derived.Test.YtdbpglhdicmhhaaGreatDoorMPr19
set_option maxHeartbeats 8000000
set_option maxRecDepth 100000
set_option linter.unusedVariables false
set_option linter.unusedSimpArgs false
section
namespace Go.Proofs.YtdbpglhdicmhhaaGreatDoor.GA
open Go.RowKit Go.Proofs.YtdbpglhdicmhhaaGreatDoorW.aI Go.Proofs.YtdbpglhdicmhhaaGreatDoorW.aX Go.Proofs.YtdbpglhdicmhhaaGreatDoorW.aZ
mutual
def aH.j0 : Nat → Int → Bool → List Int → List (jw) → List (qB) → Option (ByteArray × Int)
 | 0,_,_,_,_,_ => none
 | k + 1,x1,x25,Ui,ahK,ahL => if x25 = true then (some ((⟨#[]⟩ : ByteArray),1)) else (if 0 ≤ x1 then (if x1 < (Ui.length : Int) then ((dJ.f (rd Ui x1)).bind fun jJ => (if jJ.2.2.2.2.2 = 0 then ((jm.f jJ.1).bind fun zT => ((iC.f jJ.1).bind fun IJ => ((bK.f IJ.1).bind fun fZ => (if fZ.1 = true then (if zT.1.size + 2 ≤ 9223372036854775807 then ((aJ.f k jJ.2.1).bind fun uX => (if (zT.1 ++ (⟨#[32,114]⟩ : ByteArray)).size + uX.size ≤ 9223372036854775807 then (aH.j1 k ((zT.1 ++ (⟨#[32,114]⟩ : ByteArray)) ++ uX) fZ.2.1 fZ.2.2.1 fZ.2.2.2.1 fZ.2.2.2.2 jJ.1 jJ.2.1 jJ.2.2.1 jJ.2.2.2.1 jJ.2.2.2.2.1) else (none))) else (none)) else (aH.j1 k zT.1 fZ.2.1 fZ.2.2.1 fZ.2.2.2.1 fZ.2.2.2.2 jJ.1 jJ.2.1 jJ.2.2.1 jJ.2.2.2.1 jJ.2.2.2.2.1))))) else (some ((⟨#[]⟩ : ByteArray),jJ.2.2.2.2.2)))) else (none)) else (none))
def aH.j1 : Nat → ByteArray → Bool → Bool → Int → Int → Int → Int → Int → Int → Int → Option (ByteArray × Int)
 | 0,_,_,_,_,_,_,_,_,_,_ => none
 | k + 1,x8,xG,x14,x15,x16,vX,xu,vY,vZ,wo => if xG = true then (if x8.size + 2 ≤ 9223372036854775807 then ((aJ.f k vY).bind fun Fj => (if (x8 ++ (⟨#[32,114]⟩ : ByteArray)).size + Fj.size ≤ 9223372036854775807 then (aH.j2 k ((x8 ++ (⟨#[32,114]⟩ : ByteArray)) ++ Fj) x14 x15 x16 vX xu vY vZ wo) else (none))) else (none)) else (aH.j2 k x8 x14 x15 x16 vX xu vY vZ wo)
def aH.j2 : Nat → ByteArray → Bool → Int → Int → Int → Int → Int → Int → Int → Option (ByteArray × Int)
 | 0,_,_,_,_,_,_,_,_,_ => none
 | k + 1,x8,x14,x15,x16,vX,xu,vY,vZ,wo => if x14 = true then (if x8.size + 2 ≤ 9223372036854775807 then ((aJ.f k vZ).bind fun Fp => (if (x8 ++ (⟨#[32,114]⟩ : ByteArray)).size + Fp.size ≤ 9223372036854775807 then (aH.j3 k ((x8 ++ (⟨#[32,114]⟩ : ByteArray)) ++ Fp) x15 x16 vX xu vY vZ wo) else (none))) else (none)) else (aH.j3 k x8 x15 x16 vX xu vY vZ wo)
def aH.j3 : Nat → ByteArray → Int → Int → Int → Int → Int → Int → Int → Option (ByteArray × Int)
 | 0,_,_,_,_,_,_,_,_ => none
 | k + 1,x8,x15,x16,vX,xu,vY,vZ,wo => if x15 = 0 then (aH.j4 k x8 (x16 != 0) vX xu vY vZ wo) else (aH.j4 k x8 true vX xu vY vZ wo)
def aH.j4 : Nat → ByteArray → Bool → Int → Int → Int → Int → Int → Option (ByteArray × Int)
 | 0,_,_,_,_,_,_,_ => none
 | k + 1,x8,x84,vX,xu,vY,vZ,wo => if x84 = true then (if x8.size + 1 ≤ 9223372036854775807 then ((bQ.f k vX).bind fun zL => (if (x8 ++ (⟨#[32]⟩ : ByteArray)).size + zL.size ≤ 9223372036854775807 then ((aJ.f k wo).bind fun Dk => (if ((x8 ++ (⟨#[32]⟩ : ByteArray)) ++ zL).size + Dk.size ≤ 9223372036854775807 then (some (((x8 ++ (⟨#[32]⟩ : ByteArray)) ++ zL) ++ Dk,0)) else (none))) else (none))) else (none)) else (some (x8,0))
end
def aH.f (k : Nat) (dK : List Int) (fK : List (jw)) (eP : List (qB)) (a1 : Int) : Option (ByteArray × Int):=if a1 < 0 then (aH.j0 k a1 true dK fK eP) else (aH.j0 k a1 (decide (a1 ≥ (dK.length : Int))) dK fK eP)
def aH.T16 : Bool × List (List Nat × List Nat):=(true,[([],[]),([0],[0]),([],[]),([2],[2]),([3],[3]),([1,4],[1,4]),([],[]),([6],[6]),([7,4],[7]),([5,8],[5,8]),([9,8,0,1,2,3,4,5,6,7,8,9],[0,9])])
def aH.B16 : List Nat:=[0,1,0,4,12,31,0,64,220,511,1023]
theorem aH.afM : wZ .any (opsOf Tryz.f15 16) = aH.T16:=by kernel_rfl
theorem aH.abE : BD aH.T16.2 aH.B16 = true:=by kernel_rfl
theorem aH.calls (k : Nat) (wS : Option Addr) (iY : Nat) (dK : List Int) (iV : Option Addr) (iZ : Nat) (fK : List (jw)) (iW : Option Addr) (jc : Nat) (eP : List (qB)) (a1 : Int) (r1 : ByteArray) (r2 : Int) (w : World) (Gx : Kd.C (Kd.int .u32) w wS dK.length dK) (Gu : dK.length ≤ iY) (Gy : Kd.C Xj w iV fK.length fK) (Gv : fK.length ≤ iZ) (Gz : Kd.C Xl w iW eP.length eP) (Gw : eP.length ≤ jc) (h : aH.f k dK fK eP a1 = some (r1,r2)) :
  Calls Tryz.prog 15 #[.agg #[.slice wS dK.length iY,.slice iV fK.length iZ,.slice iW eP.length jc],.int .i64 a1] w fun e w' => e = .returned (.tuple #[.string r1,.int .i64 r2]) ∧ Below w.heap.size w w':=by
 have afj:=Tryz.underlying26
 have I9:=Tryz.underlying70
 have J3:=ah.mk Gx
 have aau:=ah.mk Gu
 clear Gx Gu
 have aay:=ah.mk Gy
 have aav:=ah.mk Gv
 clear Gy Gv
 have VB:=ah.mk Gz
 have aaw:=ah.mk Gw
 clear Gz Gw
 have HB:=ah.mk (Below.refl w.heap.size w)
 have H : (if a1 < 0 then (aH.j0 k a1 true dK fK eP) else (aH.j0 k a1 (decide (a1 ≥ (dK.length : Int))) dK fK eP)) = some (r1,r2):=h
 clear h
 have HC3:=ah.mk H
 clear H
 go_enter Tryz.func15,Tryz.ntmps15
 go_upto_region 1 with (first | ((with_reducible refine bI (N:=2) rfl ?_); (try (refine tV (by rfl) ?_; dsimp only)); refine dV ?hg (N:=2) ?hd (cs:=#[.slice wS dK.length iY,.slice iV fK.length iZ,.slice iW eP.length jc]) (t:=26) ?hr ?_; (case hd => rfl); (case hg => rfl); (case hr => first | (go_simp; done) | (go_simp; rfl)); intro jr hg w4 hbox hb; have n0_:=ah.mk (bP (by repeat (first | (with_reducible first | exact HB.out | apply ak | apply aj | apply ay) | exact HB.out)) hb); have n1_:=ah.mk (hbox); have n2_:=ah.mk ((by rw [hg]; exact (bV (by repeat (first | (with_reducible first | exact HB.out | apply ak | apply aj | apply ay) | exact HB.out))) : w.heap.size ≤ jr)); have n3_:=ah.mk ((by rw [hg]; exact (bV (by repeat (first | (with_reducible first | exact HB.out | apply ak | apply aj | apply ay) | exact HB.out))) : w.heap.size ≤ jr)); clear HB; have HB:=n0_; have dL:=n1_; have ajL:=n2_; have qI:=n3_; clear n0_ n1_ n2_ n3_; clear hb hbox hg))
 (try simp only [Act.put,bF,bH,bG])
 go_cut [25] (fun v25 wc => ∃ (kq : Nat) (Ue : Bool),v25 = .bool Ue ∧ ah (aH.j0 kq a1 Ue dK fK eP = some (r1,r2)) ∧ ah (kq ≤ k) ∧ ah (wc.heap[jr]? = some (.cells #[(.slice wS dK.length iY),(.slice iV fK.length iZ),(.slice iW eP.length jc)] 26 (0,0))) ∧ ah (Below w.heap.size w wc))
 case first =>
  have H:=HC3.out
  clear HC3
  by_cases c5 : a1 < 0
  ·rw [if_pos c5] at H
   have rZ : decide (a1 < 0) = true:=decide_eq_true c5
   clear c5
   (first | rw [rZ] | (simp only [fJ,fH]; rw [rZ]) | skip)
   have H':=ah.mk H
   clear H
   go_wp2
   go_meet
   case rel => exact ⟨_,(true),(by first | rfl | (simp; done) | (simp [*]; done)),H',⟨by first | omega | exact Nat.le_refl _⟩,⟨by (with_reducible repeat (first | refine aG ?_ _ | refine aQ ?_ | refine aC ?_ _)); exact dL.out⟩,⟨by repeat (first | (with_reducible first | exact HB.out | apply ak | apply aj | apply ay | refine aN ?_ qI.out) | exact HB.out)⟩⟩
  ·rw [if_neg c5] at H
   have rZ : decide (a1 < 0) = false:=decide_eq_false c5
   clear c5
   (first | rw [rZ] | (simp only [fJ,fH]; rw [rZ]) | skip)
   have H':=ah.mk H
   clear H
   have Ah : w4.cell? ⟨jr,0,none⟩ = some (.slice wS dK.length iY):=(aA dL.out 0).trans rfl
   have Aj : w4.cell? ⟨jr,1,none⟩ = some (.slice iV fK.length iZ):=(aA dL.out 1).trans rfl
   have Ak : w4.cell? ⟨jr,2,none⟩ = some (.slice iW eP.length jc):=(aA dL.out 2).trans rfl
   have Am:=au dL.out 0
   have Ap:=au dL.out 1
   have Aq:=au dL.out 2
   go_wp2
   go_meet
   case rel => exact ⟨_,(decide (a1 ≥ (dK.length : Int))),(by first | rfl | (simp; done) | (simp [*]; done)),H',⟨by first | omega | exact Nat.le_refl _⟩,⟨by (with_reducible repeat (first | refine aG ?_ _ | refine aQ ?_ | refine aC ?_ _)); exact dL.out⟩,⟨by repeat (first | (with_reducible first | exact HB.out | apply ak | apply aj | apply ay | refine aN ?_ qI.out) | exact HB.out)⟩⟩
 case rest =>
  clear HC3
  try clear c1
  try clear p2
  try clear c5
  try clear rZ
  try clear Ah
  try clear Aj
  try clear Ak
  try clear Am
  try clear Ap
  try clear Aq
  obtain ⟨kq,Ue,rfl,HA,HJ2,dL,HB⟩:=hcut
  cases kq with
  | zero => exact absurd HA.out (by simp [aH.j0])
  | succ DV =>
   have H:=HA.out
   clear HA
   simp only [aH.j0] at H
   by_cases c7 : Ue = true
   ·subst c7
    have H1 : (some ((⟨#[]⟩ : ByteArray),1)) = some (r1,r2):=by rw [if_pos rfl] at H; exact H
    clear H
    have H:=H1
    clear H1
    simp only [Option.some.injEq,Prod.mk.injEq] at H
    obtain ⟨rfl,rfl⟩:=H
    go_wp2
    go_ret2
    exact ⟨by first | rfl | (simp [bZ,cO] <;> rfl) | (simp [*,bZ,cO] <;> rfl),by repeat (first | (with_reducible first | exact HB.out | apply ak | apply aj | apply ay | refine aN ?_ qI.out) | exact HB.out)⟩
   ·replace c7:=Bool.eq_false_iff.mpr c7
    subst c7
    have H1 : (if 0 ≤ a1 then (if a1 < (dK.length : Int) then ((dJ.f (rd dK a1)).bind fun jJ => (if jJ.2.2.2.2.2 = 0 then ((jm.f jJ.1).bind fun zT => ((iC.f jJ.1).bind fun IJ => ((bK.f IJ.1).bind fun fZ => (if fZ.1 = true then (if zT.1.size + 2 ≤ 9223372036854775807 then ((aJ.f DV jJ.2.1).bind fun uX => (if (zT.1 ++ (⟨#[32,114]⟩ : ByteArray)).size + uX.size ≤ 9223372036854775807 then (aH.j1 DV ((zT.1 ++ (⟨#[32,114]⟩ : ByteArray)) ++ uX) fZ.2.1 fZ.2.2.1 fZ.2.2.2.1 fZ.2.2.2.2 jJ.1 jJ.2.1 jJ.2.2.1 jJ.2.2.2.1 jJ.2.2.2.2.1) else (none))) else (none)) else (aH.j1 DV zT.1 fZ.2.1 fZ.2.2.1 fZ.2.2.2.1 fZ.2.2.2.2 jJ.1 jJ.2.1 jJ.2.2.1 jJ.2.2.2.1 jJ.2.2.2.2.1))))) else (some ((⟨#[]⟩ : ByteArray),jJ.2.2.2.2.2)))) else (none)) else (none)) = some (r1,r2):=by rw [if_neg (show ¬ (false = true) by decide)] at H; exact H
    clear H
    have H:=H1
    clear H1
    by_cases c8 : 0 ≤ a1
    ·rw [if_pos c8] at H
     have Uz : decide (0 ≤ a1) = true:=decide_eq_true c8
     clear c8
     by_cases c9 : a1 < (dK.length : Int)
     ·rw [if_pos c9] at H
      have GZ : decide (a1 < (dK.length : Int)) = true:=decide_eq_true c9
      clear c9
      replace H:=Option.bind_eq_some_iff.mp H
      obtain ⟨⟨jq,jH,qF,qJ,qK,NW⟩,Og,H⟩:=H
      replace H : (if NW = 0 then ((jm.f jq).bind fun zT => ((iC.f jq).bind fun IJ => ((bK.f IJ.1).bind fun fZ => (if fZ.1 = true then (if zT.1.size + 2 ≤ 9223372036854775807 then ((aJ.f DV jH).bind fun uX => (if (zT.1 ++ (⟨#[32,114]⟩ : ByteArray)).size + uX.size ≤ 9223372036854775807 then (aH.j1 DV ((zT.1 ++ (⟨#[32,114]⟩ : ByteArray)) ++ uX) fZ.2.1 fZ.2.2.1 fZ.2.2.2.1 fZ.2.2.2.2 jq jH qF qJ qK) else (none))) else (none)) else (aH.j1 DV zT.1 fZ.2.1 fZ.2.2.1 fZ.2.2.2.1 fZ.2.2.2.2 jq jH qF qJ qK))))) else (some ((⟨#[]⟩ : ByteArray),NW))) = some (r1,r2):=H
      have Yi:=ah.mk Og
      clear Og
      by_cases c11 : NW = 0
      ·rw [if_pos c11] at H
       have Dw : (NW == 0) = true:=beq_iff_eq.mpr c11
       have Ei : (NW != 0) = false:=bne_eq_false_iff_eq.mpr c11
       clear c11
       replace H:=Option.bind_eq_some_iff.mp H
       obtain ⟨⟨vw,ajn⟩,Vm,H⟩:=H
       replace H : ((iC.f jq).bind fun IJ => ((bK.f IJ.1).bind fun fZ => (if fZ.1 = true then (if vw.size + 2 ≤ 9223372036854775807 then ((aJ.f DV jH).bind fun uX => (if (vw ++ (⟨#[32,114]⟩ : ByteArray)).size + uX.size ≤ 9223372036854775807 then (aH.j1 DV ((vw ++ (⟨#[32,114]⟩ : ByteArray)) ++ uX) fZ.2.1 fZ.2.2.1 fZ.2.2.2.1 fZ.2.2.2.2 jq jH qF qJ qK) else (none))) else (none)) else (aH.j1 DV vw fZ.2.1 fZ.2.2.1 fZ.2.2.2.1 fZ.2.2.2.2 jq jH qF qJ qK)))) = some (r1,r2):=H
       have A12:=ah.mk Vm
       clear Vm
       replace H:=Option.bind_eq_some_iff.mp H
       obtain ⟨⟨aad,ajo⟩,Oh,H⟩:=H
       replace H : ((bK.f aad).bind fun fZ => (if fZ.1 = true then (if vw.size + 2 ≤ 9223372036854775807 then ((aJ.f DV jH).bind fun uX => (if (vw ++ (⟨#[32,114]⟩ : ByteArray)).size + uX.size ≤ 9223372036854775807 then (aH.j1 DV ((vw ++ (⟨#[32,114]⟩ : ByteArray)) ++ uX) fZ.2.1 fZ.2.2.1 fZ.2.2.2.1 fZ.2.2.2.2 jq jH qF qJ qK) else (none))) else (none)) else (aH.j1 DV vw fZ.2.1 fZ.2.2.1 fZ.2.2.2.1 fZ.2.2.2.2 jq jH qF qJ qK))) = some (r1,r2):=H
       have A13:=ah.mk Oh
       clear Oh
       replace H:=Option.bind_eq_some_iff.mp H
       obtain ⟨⟨adv,Qb,G8,AY,Dj⟩,Vo,H⟩:=H
       replace H : (if adv = true then (if vw.size + 2 ≤ 9223372036854775807 then ((aJ.f DV jH).bind fun uX => (if (vw ++ (⟨#[32,114]⟩ : ByteArray)).size + uX.size ≤ 9223372036854775807 then (aH.j1 DV ((vw ++ (⟨#[32,114]⟩ : ByteArray)) ++ uX) Qb G8 AY Dj jq jH qF qJ qK) else (none))) else (none)) else (aH.j1 DV vw Qb G8 AY Dj jq jH qF qJ qK)) = some (r1,r2):=H
       have A14:=ah.mk Vo
       clear Vo
       have abe:=ah.mk H
       clear H
       have Es : wc.cell? ⟨jr,0,none⟩ = some (.slice wS dK.length iY):=(aA dL.out 0).trans rfl
       have Et : wc.cell? ⟨jr,1,none⟩ = some (.slice iV fK.length iZ):=(aA dL.out 1).trans rfl
       have Eu : wc.cell? ⟨jr,2,none⟩ = some (.slice iW eP.length jc):=(aA dL.out 2).trans rfl
       have EF:=au dL.out 0
       have EG:=au dL.out 1
       have EH:=au dL.out 2
       have Jd : 0 ≤ (a1 : Int):=of_decide_eq_true (by first | (with_reducible assumption) | assumption)
       have Jh : a1 < (dK.length : Int):=of_decide_eq_true (by first | (with_reducible assumption) | assumption)
       obtain ⟨uJ,ab6,uS⟩:=Kd.tN J3.out a1 Jd Jh
       cases ab6
       try replace uS:=(HB.out.cell (World.block_lt_of_cell? w _ uS)).trans uS
       replace Jd:=eq_true Jd
       replace Jh:=eq_true Jh
       go_upto_if 58 with (first | ((with_reducible refine dn (f:=40) rfl ?_); refine goesL_ (some 32) rfl rfl Tryz.func40 (by kernel_rfl) rfl #[.int .u32 (rd dK a1)] rfl (by (try simp only [List.map_toArray,List.map_cons,List.map_nil]); first | done | rfl | (simp only [List.length_drop,List.length_take]; rfl)) ?_; (with_reducible refine (dJ.calls (rd dK a1) jq jH qF qJ qK NW _ Yi.out).mono ?_); rintro e w17 ⟨rfl,hb⟩; refine ⟨_,rfl,?_⟩; have n0_:=ah.mk (bU (g:=jr) (o:=.cells #[.slice (some uJ) dK.length iY,.slice iV fK.length iZ,.slice iW eP.length jc] 26 (0,0)) (by (with_reducible repeat (first | refine aG ?_ _ | refine aQ ?_ | refine aC ?_ _)); exact dL.out) hb); have n1_:=ah.mk (bP (by repeat (first | (with_reducible first | exact HB.out | apply ak | apply aj | apply ay | refine aN ?_ qI.out) | exact HB.out)) hb); clear dL; clear HB; have dL:=n0_; have HB:=n1_; clear n0_ n1_; (try clear hb); (try clear hb2); (try clear hk); (try clear hi)) | ((with_reducible refine bI (N:=6) rfl ?_); (try (refine tV (by rfl) ?_; dsimp only)); refine dV ?hg (N:=6) ?hd (cs:=#[.int .i64 0,.int .i64 0,.int .i64 0,.int .i64 0,.int .i64 0]) (t:=70) ?hr ?_; (case hd => rfl); (case hg => rfl); (case hr => first | (go_simp; done) | (go_simp; rfl)); intro fG hg Oe hbox hb; have n0_:=ah.mk (bU (g:=jr) (o:=.cells #[.slice (some uJ) dK.length iY,.slice iV fK.length iZ,.slice iW eP.length jc] 26 (0,0)) (by (with_reducible repeat (first | refine aG ?_ _ | refine aQ ?_ | refine aC ?_ _)); exact dL.out) hb); have n1_:=ah.mk (bP (by repeat (first | (with_reducible first | exact HB.out | apply ak | apply aj | apply ay | refine aN ?_ qI.out) | exact HB.out)) hb); have n2_:=ah.mk (hbox); have n3_:=ah.mk ((by rw [hg]; exact (bV (by repeat (first | (with_reducible first | exact HB.out | apply ak | apply aj | apply ay | refine aN ?_ qI.out) | exact HB.out))) : w.heap.size ≤ fG)); have n4_:=ah.mk ((by rw [hg]; exact (bV (by repeat (first | (with_reducible first | exact HB.out | apply ak | apply aj | apply ay | refine aN ?_ qI.out) | exact HB.out))) : w.heap.size ≤ fG)); have n5_:=ah.mk ((by rw [hg]; exact Nat.ne_of_lt (je (g:=jr) (o:=.cells #[.slice (some uJ) dK.length iY,.slice iV fK.length iZ,.slice iW eP.length jc] 26 (0,0)) (by (with_reducible repeat (first | refine aG ?_ _ | refine aQ ?_ | refine aC ?_ _)); exact dL.out)) : jr ≠ fG)); have n6_:=ah.mk ((by rw [hg]; exact Nat.ne_of_gt (je (g:=jr) (o:=.cells #[.slice (some uJ) dK.length iY,.slice iV fK.length iZ,.slice iW eP.length jc] 26 (0,0)) (by (with_reducible repeat (first | refine aG ?_ _ | refine aQ ?_ | refine aC ?_ _)); exact dL.out)) : fG ≠ jr)); clear dL; clear HB; have dL:=n0_; have HB:=n1_; have dh:=n2_; have aec:=n3_; have vC:=n4_; have qM:=n5_; have xA:=n6_; clear n0_ n1_ n2_ n3_ n4_ n5_ n6_; clear hb hbox hg; have afe:=xA.out; have aff:=qM.out; have Ew : Oe.cell? ⟨fG,0,none⟩ = some (.int .i64 0):=(aA dh.out 0).trans rfl; have Ey : Oe.cell? ⟨fG,1,none⟩ = some (.int .i64 0):=(aA dh.out 1).trans rfl; have Ez : Oe.cell? ⟨fG,2,none⟩ = some (.int .i64 0):=(aA dh.out 2).trans rfl; have EC : Oe.cell? ⟨fG,3,none⟩ = some (.int .i64 0):=(aA dh.out 3).trans rfl; have ED : Oe.cell? ⟨fG,4,none⟩ = some (.int .i64 0):=(aA dh.out 4).trans rfl; have EI:=au dh.out 0; have EJ:=au dh.out 1; have EK:=au dh.out 2; have EL:=au dh.out 3; have EM:=au dh.out 4) | ((with_reducible refine dn (f:=41) rfl ?_); refine goesL_ (some 41) rfl rfl Tryz.func41 (by kernel_rfl) rfl #[.int .i64 jq] rfl (by (try simp only [List.map_toArray,List.map_cons,List.map_nil]); first | done | rfl | (simp only [List.length_drop,List.length_take]; rfl)) ?_; (with_reducible refine (jm.calls jq vw ajn _ A12.out).mono ?_); rintro e w21 ⟨rfl,hb⟩; refine ⟨_,rfl,?_⟩; have n0_:=ah.mk (bU (g:=jr) (o:=.cells #[.slice (some uJ) dK.length iY,.slice iV fK.length iZ,.slice iW eP.length jc] 26 (0,0)) (by (with_reducible repeat (first | refine aG ?_ _ | refine aQ ?_ | refine aC ?_ _)); refine dU ?_ qM.out _; (with_reducible repeat (first | refine aG ?_ _ | refine aQ ?_ | refine aC ?_ _)); refine dU ?_ qM.out _; (with_reducible repeat (first | refine aG ?_ _ | refine aQ ?_ | refine aC ?_ _)); refine dU ?_ qM.out _; (with_reducible repeat (first | refine aG ?_ _ | refine aQ ?_ | refine aC ?_ _)); refine dU ?_ qM.out _; (with_reducible repeat (first | refine aG ?_ _ | refine aQ ?_ | refine aC ?_ _)); refine dU ?_ qM.out _; (with_reducible repeat (first | refine aG ?_ _ | refine aQ ?_ | refine aC ?_ _)); exact dL.out) hb); have n1_:=ah.mk (bU (g:=fG) (o:=.cells #[.int .i64 jq,.int .i64 jH,.int .i64 qF,.int .i64 qJ,.int .i64 qK] 70 (0,0)) (by (with_reducible repeat (first | refine aG ?_ _ | refine aQ ?_ | refine aC ?_ _)); refine bg (cs:=#[.int .i64 jq,.int .i64 jH,.int .i64 qF,.int .i64 qJ,.int .i64 0]) ?_ 4 _ rfl; (with_reducible repeat (first | refine aG ?_ _ | refine aQ ?_ | refine aC ?_ _)); refine bg (cs:=#[.int .i64 jq,.int .i64 jH,.int .i64 qF,.int .i64 0,.int .i64 0]) ?_ 3 _ rfl; (with_reducible repeat (first | refine aG ?_ _ | refine aQ ?_ | refine aC ?_ _)); refine bg (cs:=#[.int .i64 jq,.int .i64 jH,.int .i64 0,.int .i64 0,.int .i64 0]) ?_ 2 _ rfl; (with_reducible repeat (first | refine aG ?_ _ | refine aQ ?_ | refine aC ?_ _)); refine bg (cs:=#[.int .i64 jq,.int .i64 0,.int .i64 0,.int .i64 0,.int .i64 0]) ?_ 1 _ rfl; (with_reducible repeat (first | refine aG ?_ _ | refine aQ ?_ | refine aC ?_ _)); refine bg (cs:=#[.int .i64 0,.int .i64 0,.int .i64 0,.int .i64 0,.int .i64 0]) ?_ 0 _ rfl; (with_reducible repeat (first | refine aG ?_ _ | refine aQ ?_ | refine aC ?_ _)); exact dh.out) hb); have n2_:=ah.mk (bP (by repeat (first | (with_reducible first | exact HB.out | apply ak | apply aj | apply ay | refine aN ?_ qI.out | refine aN ?_ vC.out) | exact HB.out)) hb); clear dL; clear dh; clear HB; have dL:=n0_; have dh:=n1_; have HB:=n2_; clear n0_ n1_ n2_; (try clear hb); (try clear hb2); (try clear hk); (try clear hi); have Ht : w21.cell? ⟨fG,0,none⟩ = some (.int .i64 jq):=(aA dh.out 0).trans rfl; have Hu : w21.cell? ⟨fG,1,none⟩ = some (.int .i64 jH):=(aA dh.out 1).trans rfl; have Hw : w21.cell? ⟨fG,2,none⟩ = some (.int .i64 qF):=(aA dh.out 2).trans rfl; have Hy : w21.cell? ⟨fG,3,none⟩ = some (.int .i64 qJ):=(aA dh.out 3).trans rfl; have Hz : w21.cell? ⟨fG,4,none⟩ = some (.int .i64 qK):=(aA dh.out 4).trans rfl; have Ib:=au dh.out 0; have Ic:=au dh.out 1; have Ie:=au dh.out 2; have Ig:=au dh.out 3; have Ih:=au dh.out 4) | ((with_reducible refine dn (f:=42) rfl ?_); refine goesL_ (some 47) rfl rfl Tryz.func42 (by kernel_rfl) rfl #[.int .i64 jq] rfl (by (try simp only [List.map_toArray,List.map_cons,List.map_nil]); first | done | rfl | (simp only [List.length_drop,List.length_take]; rfl)) ?_; (with_reducible refine (iC.calls jq aad ajo _ A13.out).mono ?_); rintro e Yc ⟨rfl,hb⟩; refine ⟨_,rfl,?_⟩; have n0_:=ah.mk (bU (g:=jr) (o:=.cells #[.slice (some uJ) dK.length iY,.slice iV fK.length iZ,.slice iW eP.length jc] 26 (0,0)) (by (with_reducible repeat (first | refine aG ?_ _ | refine aQ ?_ | refine aC ?_ _)); exact dL.out) hb); have n1_:=ah.mk (bU (g:=fG) (o:=.cells #[.int .i64 jq,.int .i64 jH,.int .i64 qF,.int .i64 qJ,.int .i64 qK] 70 (0,0)) (by (with_reducible repeat (first | refine aG ?_ _ | refine aQ ?_ | refine aC ?_ _)); exact dh.out) hb); have n2_:=ah.mk (bP (by repeat (first | (with_reducible first | exact HB.out | apply ak | apply aj | apply ay | refine aN ?_ qI.out | refine aN ?_ vC.out) | exact HB.out)) hb); clear dL; clear dh; clear HB; have dL:=n0_; have dh:=n1_; have HB:=n2_; clear n0_ n1_ n2_; (try clear hb); (try clear hb2); (try clear hk); (try clear hi)) | ((with_reducible refine dn (f:=43) rfl ?_); refine goesL_ (some 52) rfl rfl Tryz.func43 (by kernel_rfl) rfl #[.int .i64 aad] rfl (by (try simp only [List.map_toArray,List.map_cons,List.map_nil]); first | done | rfl | (simp only [List.length_drop,List.length_take]; rfl)) ?_; (with_reducible refine (bK.calls aad adv Qb G8 AY Dj _ A14.out).mono ?_); rintro e w' ⟨rfl,⟨nd,rfl⟩⟩; refine ⟨_,rfl,?_⟩))
       (try simp only [Act.put,bF,bH,bG])
       go_cut [8] (fun v8 wc => ∃ (kq : Nat) (vI : ByteArray),v8 = .string vI ∧ ah (aH.j1 kq vI Qb G8 AY Dj jq jH qF qJ qK = some (r1,r2)) ∧ ah (kq ≤ DV) ∧ ah (wc.heap[jr]? = some (.cells #[(.slice (some uJ) dK.length iY),(.slice iV fK.length iZ),(.slice iW eP.length jc)] 26 (0,0))) ∧ ah (wc.heap[fG]? = some (.cells #[.int .i64 jq,.int .i64 jH,.int .i64 qF,.int .i64 qJ,.int .i64 qK] 70 (0,0))) ∧ ah (Below w.heap.size w wc))
       case first =>
        have H:=abe.out
        clear abe
        by_cases c24 : adv = true
        ·subst c24
         have H1 : (if vw.size + 2 ≤ 9223372036854775807 then ((aJ.f DV jH).bind fun uX => (if (vw ++ (⟨#[32,114]⟩ : ByteArray)).size + uX.size ≤ 9223372036854775807 then (aH.j1 DV ((vw ++ (⟨#[32,114]⟩ : ByteArray)) ++ uX) Qb G8 AY Dj jq jH qF qJ qK) else (none))) else (none)) = some (r1,r2):=by rw [if_pos rfl] at H; exact H
         clear H
         have H:=H1
         clear H1
         by_cases c25 : vw.size + 2 ≤ 9223372036854775807
         ·rw [if_pos c25] at H
          have SA:=eq_true c25
          have SB : decide (vw.size + 2 ≤ 9223372036854775807) = true:=decide_eq_true c25
          try have SC : (9223372036854775807 < vw.size + 2) = False:=eq_false (Nat.not_lt.2 c25)
          replace H:=Option.bind_eq_some_iff.mp H
          obtain ⟨uX,adU,H⟩:=H
          replace H : (if (vw ++ (⟨#[32,114]⟩ : ByteArray)).size + uX.size ≤ 9223372036854775807 then (aH.j1 DV ((vw ++ (⟨#[32,114]⟩ : ByteArray)) ++ uX) Qb G8 AY Dj jq jH qF qJ qK) else (none)) = some (r1,r2):=H
          have A26:=ah.mk adU
          clear adU
          by_cases VQ : (vw ++ (⟨#[32,114]⟩ : ByteArray)).size + uX.size ≤ 9223372036854775807
          ·rw [if_pos VQ] at H
           have SE:=eq_true VQ
           have SG : decide ((vw ++ (⟨#[32,114]⟩ : ByteArray)).size + uX.size ≤ 9223372036854775807) = true:=decide_eq_true VQ
           try have SH : (9223372036854775807 < (vw ++ (⟨#[32,114]⟩ : ByteArray)).size + uX.size) = False:=eq_false (Nat.not_lt.2 VQ)
           have ako : (9223372036854775807 < vw.size + 2 + uX.size) = False:=eq_false (Nat.not_lt.2 (by have h_:=VQ; simp only [ByteArray.size_append] at h_; exact h_))
           have H':=ah.mk H
           clear H
           have ak1:=xA.out
           have ala:=qM.out
           have H6 : Yc.cell? ⟨fG,0,none⟩ = some (.int .i64 jq):=(aA dh.out 0).trans rfl
           have H7 : Yc.cell? ⟨fG,1,none⟩ = some (.int .i64 jH):=(aA dh.out 1).trans rfl
           have H8 : Yc.cell? ⟨fG,2,none⟩ = some (.int .i64 qF):=(aA dh.out 2).trans rfl
           have H9 : Yc.cell? ⟨fG,3,none⟩ = some (.int .i64 qJ):=(aA dh.out 3).trans rfl
           have Ia : Yc.cell? ⟨fG,4,none⟩ = some (.int .i64 qK):=(aA dh.out 4).trans rfl
           have Ii:=au dh.out 0
           have Ij:=au dh.out 1
           have Ik:=au dh.out 2
           have Il:=au dh.out 3
           have Io:=au dh.out 4
           go_wp2_with (first | ((with_reducible refine dn (f:=44) rfl ?_); refine goesL_ (some 63) rfl rfl Tryz.func44 (by kernel_rfl) rfl #[.int .i64 jH] rfl (by (try simp only [List.map_toArray,List.map_cons,List.map_nil]); first | done | rfl | (simp only [List.length_drop,List.length_take]; rfl)) ?_; (with_reducible refine (aJ.calls DV jH uX _ A26.out).mono ?_); rintro e Vl ⟨rfl,hb⟩; refine ⟨_,rfl,?_⟩; have n0_:=ah.mk (bU (g:=jr) (o:=.cells #[.slice (some uJ) dK.length iY,.slice iV fK.length iZ,.slice iW eP.length jc] 26 (0,0)) (by (with_reducible repeat (first | refine aG ?_ _ | refine aQ ?_ | refine aC ?_ _)); exact dL.out) hb); have n1_:=ah.mk (bU (g:=fG) (o:=.cells #[.int .i64 jq,.int .i64 jH,.int .i64 qF,.int .i64 qJ,.int .i64 qK] 70 (0,0)) (by (with_reducible repeat (first | refine aG ?_ _ | refine aQ ?_ | refine aC ?_ _)); exact dh.out) hb); have n2_:=ah.mk (bP (by repeat (first | (with_reducible first | exact HB.out | apply ak | apply aj | apply ay | refine aN ?_ qI.out | refine aN ?_ vC.out) | exact HB.out)) hb); clear dL; clear dh; clear HB; have dL:=n0_; have dh:=n1_; have HB:=n2_; clear n0_ n1_ n2_; (try clear hb); (try clear hb2); (try clear hk); (try clear hi)))
           go_meet
           case rel => exact ⟨_,((vw ++ (⟨#[32,114]⟩ : ByteArray)) ++ uX),(by first | rfl | (simp; done) | (simp [*]; done)),H',⟨by have:=HJ2.out; first | omega | exact Nat.le_refl _⟩,⟨by (with_reducible repeat (first | refine aG ?_ _ | refine aQ ?_ | refine aC ?_ _)); exact dL.out⟩,⟨by (with_reducible repeat (first | refine aG ?_ _ | refine aQ ?_ | refine aC ?_ _)); exact dh.out⟩,⟨by repeat (first | (with_reducible first | exact HB.out | apply ak | apply aj | apply ay | refine aN ?_ qI.out | refine aN ?_ vC.out) | exact HB.out)⟩⟩
          ·rw [if_neg VQ] at H
           exact absurd H (by simp)
         ·rw [if_neg c25] at H
          exact absurd H (by simp)
        ·replace c24:=Bool.eq_false_iff.mpr c24
         subst c24
         have H1 : (aH.j1 DV vw Qb G8 AY Dj jq jH qF qJ qK) = some (r1,r2):=by rw [if_neg (show ¬ (false = true) by decide)] at H; exact H
         clear H
         have H:=H1
         clear H1
         have H':=ah.mk H
         clear H
         go_wp2
         go_meet
         case rel => exact ⟨_,(vw),(by first | rfl | (simp; done) | (simp [*]; done)),H',⟨by have:=HJ2.out; first | omega | exact Nat.le_refl _⟩,⟨by (with_reducible repeat (first | refine aG ?_ _ | refine aQ ?_ | refine aC ?_ _)); exact dL.out⟩,⟨by (with_reducible repeat (first | refine aG ?_ _ | refine aQ ?_ | refine aC ?_ _)); exact dh.out⟩,⟨by repeat (first | (with_reducible first | exact HB.out | apply ak | apply aj | apply ay | refine aN ?_ qI.out | refine aN ?_ vC.out) | exact HB.out)⟩⟩
       case rest =>
        clear abe
        try clear c1
        try clear c2
        try clear p2
        try clear c4
        try clear c5
        try clear rZ
        try clear p5
        try clear q5
        try clear hx5
        try clear c7
        try clear c8
        try clear Uz
        try clear c9
        try clear GZ
        try clear c11
        try clear Dw
        try clear Ei
        try clear c15
        try clear c19
        try clear c24
        try clear c25
        try clear SA
        try clear SB
        try clear SC
        try clear VQ
        try clear SE
        try clear SG
        try clear SH
        try clear c28
        try clear Es
        try clear Et
        try clear Eu
        try clear Ew
        try clear Ey
        try clear Ez
        try clear EC
        try clear ED
        try clear Ht
        try clear Hu
        try clear Hw
        try clear Hy
        try clear Hz
        try clear H6
        try clear H7
        try clear H8
        try clear H9
        try clear Ia
        try clear Ah
        try clear Aj
        try clear Ak
        try clear EF
        try clear EG
        try clear EH
        try clear EI
        try clear EJ
        try clear EK
        try clear EL
        try clear EM
        try clear Ib
        try clear Ic
        try clear Ie
        try clear Ig
        try clear Ih
        try clear Ii
        try clear Ij
        try clear Ik
        try clear Il
        try clear Io
        try clear Am
        try clear Ap
        try clear Aq
        try clear uS
        try clear p2
        try clear Jd
        try clear Jh
        obtain ⟨kq,vI,rfl,HA,Uk,dL,dh,HB⟩:=hcut
        cases kq with
        | zero => exact absurd HA.out (by simp [aH.j1])
        | succ UM =>
         have H:=HA.out
         clear HA
         simp only [aH.j1] at H
         have abg:=ah.mk H
         clear H
         go_upto_if 65 with (fail)
         go_cut [8] (fun v8 wc => ∃ (kq : Nat) (vJ : ByteArray),v8 = .string vJ ∧ ah (aH.j2 kq vJ G8 AY Dj jq jH qF qJ qK = some (r1,r2)) ∧ ah (kq ≤ UM) ∧ ah (wc.heap[jr]? = some (.cells #[(.slice (some uJ) dK.length iY),(.slice iV fK.length iZ),(.slice iW eP.length jc)] 26 (0,0))) ∧ ah (wc.heap[fG]? = some (.cells #[.int .i64 jq,.int .i64 jH,.int .i64 qF,.int .i64 qJ,.int .i64 qK] 70 (0,0))) ∧ ah (Below w.heap.size w wc))
         case first =>
          have H:=abg.out
          clear abg
          by_cases c32 : Qb = true
          ·subst c32
           have H1 : (if vI.size + 2 ≤ 9223372036854775807 then ((aJ.f UM qF).bind fun Fj => (if (vI ++ (⟨#[32,114]⟩ : ByteArray)).size + Fj.size ≤ 9223372036854775807 then (aH.j2 UM ((vI ++ (⟨#[32,114]⟩ : ByteArray)) ++ Fj) G8 AY Dj jq jH qF qJ qK) else (none))) else (none)) = some (r1,r2):=by rw [if_pos rfl] at H; exact H
           clear H
           have H:=H1
           clear H1
           by_cases YJ : vI.size + 2 ≤ 9223372036854775807
           ·rw [if_pos YJ] at H
            have VR:=eq_true YJ
            have VT : decide (vI.size + 2 ≤ 9223372036854775807) = true:=decide_eq_true YJ
            try have VU : (9223372036854775807 < vI.size + 2) = False:=eq_false (Nat.not_lt.2 YJ)
            replace H:=Option.bind_eq_some_iff.mp H
            obtain ⟨Fj,adW,H⟩:=H
            replace H : (if (vI ++ (⟨#[32,114]⟩ : ByteArray)).size + Fj.size ≤ 9223372036854775807 then (aH.j2 UM ((vI ++ (⟨#[32,114]⟩ : ByteArray)) ++ Fj) G8 AY Dj jq jH qF qJ qK) else (none)) = some (r1,r2):=H
            have A34:=ah.mk adW
            clear adW
            by_cases OC : (vI ++ (⟨#[32,114]⟩ : ByteArray)).size + Fj.size ≤ 9223372036854775807
            ·rw [if_pos OC] at H
             have SI:=eq_true OC
             have SK : decide ((vI ++ (⟨#[32,114]⟩ : ByteArray)).size + Fj.size ≤ 9223372036854775807) = true:=decide_eq_true OC
             try have SL : (9223372036854775807 < (vI ++ (⟨#[32,114]⟩ : ByteArray)).size + Fj.size) = False:=eq_false (Nat.not_lt.2 OC)
             have aeT : (9223372036854775807 < vI.size + 2 + Fj.size) = False:=eq_false (Nat.not_lt.2 (by have h_:=OC; simp only [ByteArray.size_append] at h_; exact h_))
             have H':=ah.mk H
             clear H
             have ak3:=xA.out
             have alc:=qM.out
             have LK : wc.cell? ⟨fG,0,none⟩ = some (.int .i64 jq):=(aA dh.out 0).trans rfl
             have LM : wc.cell? ⟨fG,1,none⟩ = some (.int .i64 jH):=(aA dh.out 1).trans rfl
             have LP : wc.cell? ⟨fG,2,none⟩ = some (.int .i64 qF):=(aA dh.out 2).trans rfl
             have LQ : wc.cell? ⟨fG,3,none⟩ = some (.int .i64 qJ):=(aA dh.out 3).trans rfl
             have LU : wc.cell? ⟨fG,4,none⟩ = some (.int .i64 qK):=(aA dh.out 4).trans rfl
             have Me:=au dh.out 0
             have MK:=au dh.out 1
             have ML:=au dh.out 2
             have MN:=au dh.out 3
             have MO:=au dh.out 4
             go_wp2_with (first | ((with_reducible refine dn (f:=44) rfl ?_); refine goesL_ (some 70) rfl rfl Tryz.func44 (by kernel_rfl) rfl #[.int .i64 qF] rfl (by (try simp only [List.map_toArray,List.map_cons,List.map_nil]); first | done | rfl | (simp only [List.length_drop,List.length_take]; rfl)) ?_; (with_reducible refine (aJ.calls UM qF Fj _ A34.out).mono ?_); rintro e w38 ⟨rfl,hb⟩; refine ⟨_,rfl,?_⟩; have n0_:=ah.mk (bU (g:=jr) (o:=.cells #[.slice (some uJ) dK.length iY,.slice iV fK.length iZ,.slice iW eP.length jc] 26 (0,0)) (by (with_reducible repeat (first | refine aG ?_ _ | refine aQ ?_ | refine aC ?_ _)); exact dL.out) hb); have n1_:=ah.mk (bU (g:=fG) (o:=.cells #[.int .i64 jq,.int .i64 jH,.int .i64 qF,.int .i64 qJ,.int .i64 qK] 70 (0,0)) (by (with_reducible repeat (first | refine aG ?_ _ | refine aQ ?_ | refine aC ?_ _)); exact dh.out) hb); have n2_:=ah.mk (bP (by repeat (first | (with_reducible first | exact HB.out | apply ak | apply aj | apply ay | refine aN ?_ qI.out | refine aN ?_ vC.out) | exact HB.out)) hb); clear dL; clear dh; clear HB; have dL:=n0_; have dh:=n1_; have HB:=n2_; clear n0_ n1_ n2_; (try clear hb); (try clear hb2); (try clear hk); (try clear hi)))
             go_meet
             case rel => exact ⟨_,((vI ++ (⟨#[32,114]⟩ : ByteArray)) ++ Fj),(by first | rfl | (simp; done) | (simp [*]; done)),H',⟨by have:=HJ2.out; have:=Uk.out; first | omega | exact Nat.le_refl _⟩,⟨by (with_reducible repeat (first | refine aG ?_ _ | refine aQ ?_ | refine aC ?_ _)); exact dL.out⟩,⟨by (with_reducible repeat (first | refine aG ?_ _ | refine aQ ?_ | refine aC ?_ _)); exact dh.out⟩,⟨by repeat (first | (with_reducible first | exact HB.out | apply ak | apply aj | apply ay | refine aN ?_ qI.out | refine aN ?_ vC.out) | exact HB.out)⟩⟩
            ·rw [if_neg OC] at H
             exact absurd H (by simp)
           ·rw [if_neg YJ] at H
            exact absurd H (by simp)
          ·replace c32:=Bool.eq_false_iff.mpr c32
           subst c32
           have H1 : (aH.j2 UM vI G8 AY Dj jq jH qF qJ qK) = some (r1,r2):=by rw [if_neg (show ¬ (false = true) by decide)] at H; exact H
           clear H
           have H:=H1
           clear H1
           have H':=ah.mk H
           clear H
           go_wp2
           go_meet
           case rel => exact ⟨_,(vI),(by first | rfl | (simp; done) | (simp [*]; done)),H',⟨by have:=HJ2.out; have:=Uk.out; first | omega | exact Nat.le_refl _⟩,⟨by (with_reducible repeat (first | refine aG ?_ _ | refine aQ ?_ | refine aC ?_ _)); exact dL.out⟩,⟨by (with_reducible repeat (first | refine aG ?_ _ | refine aQ ?_ | refine aC ?_ _)); exact dh.out⟩,⟨by repeat (first | (with_reducible first | exact HB.out | apply ak | apply aj | apply ay | refine aN ?_ qI.out | refine aN ?_ vC.out) | exact HB.out)⟩⟩
         case rest =>
          clear abg
          try clear c1
          try clear c2
          try clear p2
          try clear c3
          try clear c4
          try clear c5
          try clear rZ
          try clear p5
          try clear q5
          try clear hx5
          try clear c7
          try clear c8
          try clear Uz
          try clear c9
          try clear GZ
          try clear c11
          try clear Dw
          try clear Ei
          try clear c15
          try clear c19
          try clear c24
          try clear c25
          try clear SA
          try clear SB
          try clear SC
          try clear VQ
          try clear SE
          try clear SG
          try clear SH
          try clear c28
          try clear c32
          try clear YJ
          try clear VR
          try clear VT
          try clear VU
          try clear OC
          try clear SI
          try clear SK
          try clear SL
          try clear c36
          try clear Es
          try clear Et
          try clear Eu
          try clear Ew
          try clear Ey
          try clear Ez
          try clear EC
          try clear ED
          try clear Ht
          try clear Hu
          try clear Hw
          try clear Hy
          try clear Hz
          try clear H6
          try clear H7
          try clear H8
          try clear H9
          try clear Ia
          try clear LK
          try clear LM
          try clear LP
          try clear LQ
          try clear LU
          try clear Ah
          try clear Aj
          try clear Ak
          try clear EF
          try clear EG
          try clear EH
          try clear EI
          try clear EJ
          try clear EK
          try clear EL
          try clear EM
          try clear Ib
          try clear Ic
          try clear Ie
          try clear Ig
          try clear Ih
          try clear Ii
          try clear Ij
          try clear Ik
          try clear Il
          try clear Io
          try clear Me
          try clear MK
          try clear ML
          try clear MN
          try clear MO
          try clear Am
          try clear Ap
          try clear Aq
          try clear uS
          try clear p2
          try clear p5
          try clear Jd
          try clear q5
          try clear Jh
          obtain ⟨kq,vJ,rfl,HA,Yq,dL,dh,HB⟩:=hcut
          cases kq with
          | zero => exact absurd HA.out (by simp [aH.j2])
          | succ UN =>
           have H:=HA.out
           clear HA
           simp only [aH.j2] at H
           have abh:=ah.mk H
           clear H
           go_upto_if 72 with (fail)
           go_cut [8] (fun v8 wc => ∃ (kq : Nat) (rE : ByteArray),v8 = .string rE ∧ ah (aH.j3 kq rE AY Dj jq jH qF qJ qK = some (r1,r2)) ∧ ah (kq ≤ UN) ∧ ah (wc.heap[jr]? = some (.cells #[(.slice (some uJ) dK.length iY),(.slice iV fK.length iZ),(.slice iW eP.length jc)] 26 (0,0))) ∧ ah (wc.heap[fG]? = some (.cells #[.int .i64 jq,.int .i64 jH,.int .i64 qF,.int .i64 qJ,.int .i64 qK] 70 (0,0))) ∧ ah (Below w.heap.size w wc))
           case first =>
            have H:=abh.out
            clear abh
            by_cases c40 : G8 = true
            ·subst c40
             have H1 : (if vJ.size + 2 ≤ 9223372036854775807 then ((aJ.f UN qJ).bind fun Fp => (if (vJ ++ (⟨#[32,114]⟩ : ByteArray)).size + Fp.size ≤ 9223372036854775807 then (aH.j3 UN ((vJ ++ (⟨#[32,114]⟩ : ByteArray)) ++ Fp) AY Dj jq jH qF qJ qK) else (none))) else (none)) = some (r1,r2):=by rw [if_pos rfl] at H; exact H
             clear H
             have H:=H1
             clear H1
             by_cases QD : vJ.size + 2 ≤ 9223372036854775807
             ·rw [if_pos QD] at H
              have VW:=eq_true QD
              have VX : decide (vJ.size + 2 ≤ 9223372036854775807) = true:=decide_eq_true QD
              try have VY : (9223372036854775807 < vJ.size + 2) = False:=eq_false (Nat.not_lt.2 QD)
              replace H:=Option.bind_eq_some_iff.mp H
              obtain ⟨Fp,adZ,H⟩:=H
              replace H : (if (vJ ++ (⟨#[32,114]⟩ : ByteArray)).size + Fp.size ≤ 9223372036854775807 then (aH.j3 UN ((vJ ++ (⟨#[32,114]⟩ : ByteArray)) ++ Fp) AY Dj jq jH qF qJ qK) else (none)) = some (r1,r2):=H
              have A42:=ah.mk adZ
              clear adZ
              by_cases YL : (vJ ++ (⟨#[32,114]⟩ : ByteArray)).size + Fp.size ≤ 9223372036854775807
              ·rw [if_pos YL] at H
               have aaL:=eq_true YL
               have aaM : decide ((vJ ++ (⟨#[32,114]⟩ : ByteArray)).size + Fp.size ≤ 9223372036854775807) = true:=decide_eq_true YL
               try have aaN : (9223372036854775807 < (vJ ++ (⟨#[32,114]⟩ : ByteArray)).size + Fp.size) = False:=eq_false (Nat.not_lt.2 YL)
               have akC : (9223372036854775807 < vJ.size + 2 + Fp.size) = False:=eq_false (Nat.not_lt.2 (by have h_:=YL; simp only [ByteArray.size_append] at h_; exact h_))
               have H':=ah.mk H
               clear H
               have ak4:=xA.out
               have ald:=qM.out
               have LV : wc.cell? ⟨fG,0,none⟩ = some (.int .i64 jq):=(aA dh.out 0).trans rfl
               have LW : wc.cell? ⟨fG,1,none⟩ = some (.int .i64 jH):=(aA dh.out 1).trans rfl
               have LX : wc.cell? ⟨fG,2,none⟩ = some (.int .i64 qF):=(aA dh.out 2).trans rfl
               have Tm : wc.cell? ⟨fG,3,none⟩ = some (.int .i64 qJ):=(aA dh.out 3).trans rfl
               have Tn : wc.cell? ⟨fG,4,none⟩ = some (.int .i64 qK):=(aA dh.out 4).trans rfl
               have MS:=au dh.out 0
               have MW:=au dh.out 1
               have MX:=au dh.out 2
               have TD:=au dh.out 3
               have TF:=au dh.out 4
               go_wp2_with (first | ((with_reducible refine dn (f:=44) rfl ?_); refine goesL_ (some 77) rfl rfl Tryz.func44 (by kernel_rfl) rfl #[.int .i64 qJ] rfl (by (try simp only [List.map_toArray,List.map_cons,List.map_nil]); first | done | rfl | (simp only [List.length_drop,List.length_take]; rfl)) ?_; (with_reducible refine (aJ.calls UN qJ Fp _ A42.out).mono ?_); rintro e w46 ⟨rfl,hb⟩; refine ⟨_,rfl,?_⟩; have n0_:=ah.mk (bU (g:=jr) (o:=.cells #[.slice (some uJ) dK.length iY,.slice iV fK.length iZ,.slice iW eP.length jc] 26 (0,0)) (by (with_reducible repeat (first | refine aG ?_ _ | refine aQ ?_ | refine aC ?_ _)); exact dL.out) hb); have n1_:=ah.mk (bU (g:=fG) (o:=.cells #[.int .i64 jq,.int .i64 jH,.int .i64 qF,.int .i64 qJ,.int .i64 qK] 70 (0,0)) (by (with_reducible repeat (first | refine aG ?_ _ | refine aQ ?_ | refine aC ?_ _)); exact dh.out) hb); have n2_:=ah.mk (bP (by repeat (first | (with_reducible first | exact HB.out | apply ak | apply aj | apply ay | refine aN ?_ qI.out | refine aN ?_ vC.out) | exact HB.out)) hb); clear dL; clear dh; clear HB; have dL:=n0_; have dh:=n1_; have HB:=n2_; clear n0_ n1_ n2_; (try clear hb); (try clear hb2); (try clear hk); (try clear hi)))
               go_meet
               case rel => exact ⟨_,((vJ ++ (⟨#[32,114]⟩ : ByteArray)) ++ Fp),(by first | rfl | (simp; done) | (simp [*]; done)),H',⟨by have:=HJ2.out; have:=Uk.out; have:=Yq.out; first | omega | exact Nat.le_refl _⟩,⟨by (with_reducible repeat (first | refine aG ?_ _ | refine aQ ?_ | refine aC ?_ _)); exact dL.out⟩,⟨by (with_reducible repeat (first | refine aG ?_ _ | refine aQ ?_ | refine aC ?_ _)); exact dh.out⟩,⟨by repeat (first | (with_reducible first | exact HB.out | apply ak | apply aj | apply ay | refine aN ?_ qI.out | refine aN ?_ vC.out) | exact HB.out)⟩⟩
              ·rw [if_neg YL] at H
               exact absurd H (by simp)
             ·rw [if_neg QD] at H
              exact absurd H (by simp)
            ·replace c40:=Bool.eq_false_iff.mpr c40
             subst c40
             have H1 : (aH.j3 UN vJ AY Dj jq jH qF qJ qK) = some (r1,r2):=by rw [if_neg (show ¬ (false = true) by decide)] at H; exact H
             clear H
             have H:=H1
             clear H1
             have H':=ah.mk H
             clear H
             go_wp2
             go_meet
             case rel => exact ⟨_,(vJ),(by first | rfl | (simp; done) | (simp [*]; done)),H',⟨by have:=HJ2.out; have:=Uk.out; have:=Yq.out; first | omega | exact Nat.le_refl _⟩,⟨by (with_reducible repeat (first | refine aG ?_ _ | refine aQ ?_ | refine aC ?_ _)); exact dL.out⟩,⟨by (with_reducible repeat (first | refine aG ?_ _ | refine aQ ?_ | refine aC ?_ _)); exact dh.out⟩,⟨by repeat (first | (with_reducible first | exact HB.out | apply ak | apply aj | apply ay | refine aN ?_ qI.out | refine aN ?_ vC.out) | exact HB.out)⟩⟩
           case rest =>
            clear abh
            try clear c1
            try clear c2
            try clear p2
            try clear c3
            try clear c4
            try clear c5
            try clear rZ
            try clear p5
            try clear q5
            try clear hx5
            try clear c7
            try clear c8
            try clear Uz
            try clear c9
            try clear GZ
            try clear c11
            try clear Dw
            try clear Ei
            try clear c15
            try clear c19
            try clear c24
            try clear c25
            try clear SA
            try clear SB
            try clear SC
            try clear VQ
            try clear SE
            try clear SG
            try clear SH
            try clear c28
            try clear c32
            try clear YJ
            try clear VR
            try clear VT
            try clear VU
            try clear OC
            try clear SI
            try clear SK
            try clear SL
            try clear c36
            try clear c40
            try clear QD
            try clear VW
            try clear VX
            try clear VY
            try clear YK
            try clear YL
            try clear aaL
            try clear aaM
            try clear aaN
            try clear c44
            try clear Es
            try clear Et
            try clear Eu
            try clear Ew
            try clear Ey
            try clear Ez
            try clear EC
            try clear ED
            try clear Ht
            try clear Hu
            try clear Hw
            try clear Hy
            try clear Hz
            try clear H6
            try clear H7
            try clear H8
            try clear H9
            try clear Ia
            try clear LK
            try clear LM
            try clear LP
            try clear LQ
            try clear LU
            try clear LV
            try clear LW
            try clear LX
            try clear Tm
            try clear Tn
            try clear Ah
            try clear Aj
            try clear Ak
            try clear EF
            try clear EG
            try clear EH
            try clear EI
            try clear EJ
            try clear EK
            try clear EL
            try clear EM
            try clear Ib
            try clear Ic
            try clear Ie
            try clear Ig
            try clear Ih
            try clear Ii
            try clear Ij
            try clear Ik
            try clear Il
            try clear Io
            try clear Me
            try clear MK
            try clear ML
            try clear MN
            try clear MO
            try clear MS
            try clear MW
            try clear MX
            try clear TD
            try clear TF
            try clear Am
            try clear Ap
            try clear Aq
            try clear uS
            try clear p2
            try clear p5
            try clear Jd
            try clear q5
            try clear Jh
            obtain ⟨kq,rE,rfl,HA,aeo,dL,dh,HB⟩:=hcut
            cases kq with
            | zero => exact absurd HA.out (by simp [aH.j3])
            | succ aja =>
             have H:=HA.out
             clear HA
             simp only [aH.j3] at H
             have abj:=ah.mk H
             clear H
             go_upto_region 15 with (fail)
             go_cut [84] (fun v84 wc => ∃ (kq : Nat) (N7 : Bool),v84 = .bool N7 ∧ ah (aH.j4 kq rE N7 jq jH qF qJ qK = some (r1,r2)) ∧ ah (kq ≤ aja) ∧ ah (wc.heap[jr]? = some (.cells #[(.slice (some uJ) dK.length iY),(.slice iV fK.length iZ),(.slice iW eP.length jc)] 26 (0,0))) ∧ ah (wc.heap[fG]? = some (.cells #[.int .i64 jq,.int .i64 jH,.int .i64 qF,.int .i64 qJ,.int .i64 qK] 70 (0,0))) ∧ ah (Below w.heap.size w wc))
             case first =>
              have H:=abj.out
              clear abj
              by_cases YM : AY = 0
              ·rw [if_pos YM] at H
               have J8 : (AY == 0) = true:=beq_iff_eq.mpr YM
               have aaO : (AY != 0) = false:=bne_eq_false_iff_eq.mpr YM
               clear YM
               (first | rw [J8] | (simp only [fJ,fH]; rw [J8]) | skip)
               have H':=ah.mk H
               clear H
               go_wp2
               go_meet
               case rel => exact ⟨_,((Dj != 0)),(by first | rfl | (simp; done) | (simp [*]; done)),H',⟨by have:=HJ2.out; have:=Uk.out; have:=Yq.out; have:=aeo.out; first | omega | exact Nat.le_refl _⟩,⟨by (with_reducible repeat (first | refine aG ?_ _ | refine aQ ?_ | refine aC ?_ _)); exact dL.out⟩,⟨by (with_reducible repeat (first | refine aG ?_ _ | refine aQ ?_ | refine aC ?_ _)); exact dh.out⟩,⟨by repeat (first | (with_reducible first | exact HB.out | apply ak | apply aj | apply ay | refine aN ?_ qI.out | refine aN ?_ vC.out) | exact HB.out)⟩⟩
              ·rw [if_neg YM] at H
               have J8 : (AY == 0) = false:=beq_eq_false_iff_ne.mpr YM
               have aaO : (AY != 0) = true:=bne_iff_ne.mpr YM
               (first | rw [J8] | (simp only [fJ,fH]; rw [J8]) | skip)
               have H':=ah.mk H
               clear H
               go_wp2
               go_meet
               case rel => exact ⟨_,(true),(by first | rfl | (simp; done) | (simp [*]; done)),H',⟨by have:=HJ2.out; have:=Uk.out; have:=Yq.out; have:=aeo.out; first | omega | exact Nat.le_refl _⟩,⟨by (with_reducible repeat (first | refine aG ?_ _ | refine aQ ?_ | refine aC ?_ _)); exact dL.out⟩,⟨by (with_reducible repeat (first | refine aG ?_ _ | refine aQ ?_ | refine aC ?_ _)); exact dh.out⟩,⟨by repeat (first | (with_reducible first | exact HB.out | apply ak | apply aj | apply ay | refine aN ?_ qI.out | refine aN ?_ vC.out) | exact HB.out)⟩⟩
             case rest =>
              clear abj
              try clear c1
              try clear c2
              try clear p2
              try clear c3
              try clear c4
              try clear c5
              try clear rZ
              try clear p5
              try clear q5
              try clear hx5
              try clear c7
              try clear c8
              try clear Uz
              try clear c9
              try clear GZ
              try clear c11
              try clear Dw
              try clear Ei
              try clear c15
              try clear c19
              try clear c24
              try clear c25
              try clear SA
              try clear SB
              try clear SC
              try clear VQ
              try clear SE
              try clear SG
              try clear SH
              try clear c28
              try clear c32
              try clear YJ
              try clear VR
              try clear VT
              try clear VU
              try clear OC
              try clear SI
              try clear SK
              try clear SL
              try clear c36
              try clear c40
              try clear QD
              try clear VW
              try clear VX
              try clear VY
              try clear YK
              try clear YL
              try clear aaL
              try clear aaM
              try clear aaN
              try clear c44
              try clear YM
              try clear J8
              try clear aaO
              try clear Es
              try clear Et
              try clear Eu
              try clear Ew
              try clear Ey
              try clear Ez
              try clear EC
              try clear ED
              try clear Ht
              try clear Hu
              try clear Hw
              try clear Hy
              try clear Hz
              try clear H6
              try clear H7
              try clear H8
              try clear H9
              try clear Ia
              try clear LK
              try clear LM
              try clear LP
              try clear LQ
              try clear LU
              try clear LV
              try clear LW
              try clear LX
              try clear Tm
              try clear Tn
              try clear Ah
              try clear Aj
              try clear Ak
              try clear EF
              try clear EG
              try clear EH
              try clear EI
              try clear EJ
              try clear EK
              try clear EL
              try clear EM
              try clear Ib
              try clear Ic
              try clear Ie
              try clear Ig
              try clear Ih
              try clear Ii
              try clear Ij
              try clear Ik
              try clear Il
              try clear Io
              try clear Me
              try clear MK
              try clear ML
              try clear MN
              try clear MO
              try clear MS
              try clear MW
              try clear MX
              try clear TD
              try clear TF
              try clear Am
              try clear Ap
              try clear Aq
              try clear uS
              try clear p2
              try clear p5
              try clear Jd
              try clear q5
              try clear Jh
              obtain ⟨kq,N7,rfl,HA,alN,dL,dh,HB⟩:=hcut
              cases kq with
              | zero => exact absurd HA.out (by simp [aH.j4])
              | succ Xp =>
               have H:=HA.out
               clear HA
               simp only [aH.j4] at H
               by_cases c49 : N7 = true
               ·subst c49
                have H1 : (if rE.size + 1 ≤ 9223372036854775807 then ((bQ.f Xp jq).bind fun zL => (if (rE ++ (⟨#[32]⟩ : ByteArray)).size + zL.size ≤ 9223372036854775807 then ((aJ.f Xp qK).bind fun Dk => (if ((rE ++ (⟨#[32]⟩ : ByteArray)) ++ zL).size + Dk.size ≤ 9223372036854775807 then (some (((rE ++ (⟨#[32]⟩ : ByteArray)) ++ zL) ++ Dk,0)) else (none))) else (none))) else (none)) = some (r1,r2):=by rw [if_pos rfl] at H; exact H
                clear H
                have H:=H1
                clear H1
                by_cases c50 : rE.size + 1 ≤ 9223372036854775807
                ·rw [if_pos c50] at H
                 have akE:=eq_true c50
                 have akF : decide (rE.size + 1 ≤ 9223372036854775807) = true:=decide_eq_true c50
                 try have akG : (9223372036854775807 < rE.size + 1) = False:=eq_false (Nat.not_lt.2 c50)
                 replace H:=Option.bind_eq_some_iff.mp H
                 obtain ⟨zL,ad1,H⟩:=H
                 replace H : (if (rE ++ (⟨#[32]⟩ : ByteArray)).size + zL.size ≤ 9223372036854775807 then ((aJ.f Xp qK).bind fun Dk => (if ((rE ++ (⟨#[32]⟩ : ByteArray)) ++ zL).size + Dk.size ≤ 9223372036854775807 then (some (((rE ++ (⟨#[32]⟩ : ByteArray)) ++ zL) ++ Dk,0)) else (none))) else (none)) = some (r1,r2):=H
                 have A51:=ah.mk ad1
                 clear ad1
                 by_cases c52 : (rE ++ (⟨#[32]⟩ : ByteArray)).size + zL.size ≤ 9223372036854775807
                 ·rw [if_pos c52] at H
                  have akH:=eq_true c52
                  have akI : decide ((rE ++ (⟨#[32]⟩ : ByteArray)).size + zL.size ≤ 9223372036854775807) = true:=decide_eq_true c52
                  try have akJ : (9223372036854775807 < (rE ++ (⟨#[32]⟩ : ByteArray)).size + zL.size) = False:=eq_false (Nat.not_lt.2 c52)
                  have akK : (9223372036854775807 < rE.size + 1 + zL.size) = False:=eq_false (Nat.not_lt.2 (by have h_:=c52; simp only [ByteArray.size_append] at h_; exact h_))
                  replace H:=Option.bind_eq_some_iff.mp H
                  obtain ⟨Dk,ad3,H⟩:=H
                  replace H : (if ((rE ++ (⟨#[32]⟩ : ByteArray)) ++ zL).size + Dk.size ≤ 9223372036854775807 then (some (((rE ++ (⟨#[32]⟩ : ByteArray)) ++ zL) ++ Dk,0)) else (none)) = some (r1,r2):=H
                  have A53:=ah.mk ad3
                  clear ad3
                  by_cases c54 : ((rE ++ (⟨#[32]⟩ : ByteArray)) ++ zL).size + Dk.size ≤ 9223372036854775807
                  ·rw [if_pos c54] at H
                   have akL:=eq_true c54
                   have akM : decide (((rE ++ (⟨#[32]⟩ : ByteArray)) ++ zL).size + Dk.size ≤ 9223372036854775807) = true:=decide_eq_true c54
                   try have akN : (9223372036854775807 < ((rE ++ (⟨#[32]⟩ : ByteArray)) ++ zL).size + Dk.size) = False:=eq_false (Nat.not_lt.2 c54)
                   have akO : (9223372036854775807 < rE.size + 1 + zL.size + Dk.size) = False:=eq_false (Nat.not_lt.2 (by have h_:=c54; simp only [ByteArray.size_append] at h_; exact h_))
                   simp only [Option.some.injEq,Prod.mk.injEq] at H
                   obtain ⟨rfl,rfl⟩:=H
                   try go_wp2
                   have n0_:=ah.mk (aQ dL.out)
                   have n1_:=ah.mk (aQ dh.out)
                   have n2_:=ah.mk (ay HB.out)
                   clear dL
                   clear dh
                   clear HB
                   have dL:=n0_
                   have dh:=n1_
                   have HB:=n2_
                   clear n0_ n1_ n2_
                   refine start_ (n:=11) (S:=fun w' => w'.cell? ⟨fG,0,none⟩ = some (.int .i64 jq) ∧ w'.cell? ⟨fG,1,none⟩ = some (.int .i64 jH) ∧ w'.cell? ⟨fG,2,none⟩ = some (.int .i64 qF) ∧ w'.cell? ⟨fG,3,none⟩ = some (.int .i64 qJ) ∧ w'.cell? ⟨fG,4,none⟩ = some (.int .i64 qK)) (ds:=[]) #[false,false,false,false,false,false,false,false,false,false,false] (by kernel_rfl) rfl rfl ⟨(aA dh.out 0).trans rfl,(aA dh.out 1).trans rfl,(aA dh.out 2).trans rfl,(aA dh.out 3).trans rfl,(aA dh.out 4).trans rfl⟩ (fun hHeld => ?_); refine Gj aH.afM aH.abE (fun HT_ HW_ => ?_)
                   generalize wc.drew = w55 at dL dh HB hHeld ⊢
                   refine pure_ (i:=0) (N:=some 85) (v:=?_) (a':=?_) #[true,false,false,false,false,false,false,false,false,false,false] rfl rfl (qo HT_.out (by kernel_rfl)) (fun _ _ _ h => h) (Or.inl ⟨by rfl,?_⟩) ?_ ?_
                   rotate_left
                   ·intro w'
                    go_simp
                    with_reducible rfl
                   rotate_left
                   ·simp only [Act.put,bF,bH,bG,fJ,fH]
                    rfl
                   refine pure_ (i:=1) (N:=some 86) (v:=?_) (a':=?_) #[true,true,false,false,false,false,false,false,false,false,false] rfl rfl (qo HT_.out (by kernel_rfl)) (fun _ _ _ h => h) (Or.inl ⟨by rfl,?_⟩) ?_ ?_
                   rotate_left
                   ·intro w'
                    go_simp
                    with_reducible rfl
                   rotate_left
                   ·simp only [Act.put,bF,bH,bG,fJ,fH]
                    rfl
                   refine pure_ (i:=2) (N:=some 87) (v:=?_) (a':=?_) #[true,true,true,false,false,false,false,false,false,false,false] rfl rfl (qo HT_.out (by kernel_rfl)) (fun _ _ _ h => h) (Or.inl ⟨by rfl,?_⟩) ?_ ?_
                   rotate_left
                   ·intro w'
                    go_simp
                    with_reducible rfl
                   rotate_left
                   ·simp only [Act.put,bF,bH,bG,fJ,fH]
                    rfl
                   refine pure_ (i:=6) (N:=some 91) (v:=?_) (a':=?_) #[true,true,true,false,false,false,true,false,false,false,false] rfl rfl (qo HT_.out (by kernel_rfl)) (fun _ _ _ h => h) (Or.inl ⟨by rfl,?_⟩) ?_ ?_
                   rotate_left
                   ·intro w'
                    go_simp
                    with_reducible rfl
                   rotate_left
                   ·simp only [Act.put,bF,bH,bG,fJ,fH]
                    rfl
                   refine take_ (i:=3) (N:=some 88) (v:=?_) (a':=?_) #[true,true,true,true,false,false,true,false,false,false,false] rfl rfl (Fq HT_.out HW_.out (by kernel_rfl)) (fun _ _ _ h => h) (Or.inl ⟨by rfl,?_⟩) hHeld ?_ ?_
                   rotate_left
                   ·rintro w' ⟨s0,s1,s2,s3,s4⟩
                    go_simp
                    with_reducible rfl
                   rotate_left
                   ·simp only [Act.put,bF,bH,bG,fJ,fH]
                    rfl
                   refine take_ (i:=7) (N:=some 92) (v:=?_) (a':=?_) #[true,true,true,true,false,false,true,true,false,false,false] rfl rfl (Fq HT_.out HW_.out (by kernel_rfl)) (fun _ _ _ h => h) (Or.inl ⟨by rfl,?_⟩) hHeld ?_ ?_
                   rotate_left
                   ·rintro w' ⟨s0,s1,s2,s3,s4⟩
                    go_simp
                    with_reducible rfl
                   rotate_left
                   ·simp only [Act.put,bF,bH,bG,fJ,fH]
                    rfl
                   refine one_ (i:=4) (N:=some 89) #[true,true,true,true,true,false,true,true,false,false,false] rfl rfl (Cb HT_.out (by kernel_rfl)) (by decide) (fun K hK => ?_)
                   refine goes_ Tryz.func45 (by kernel_rfl) rfl #[.int .i64 jq] (by rfl) rfl rfl (by (try simp only [List.map_toArray,List.map_cons,List.map_nil]); first | done | rfl | (simp only [List.length_drop,List.length_take]; rfl)) ?_
                   with_reducible refine (bQ.calls Xp jq zL _ A51.out).mono ?_
                   rintro e w' ⟨rfl,⟨nd,rfl⟩⟩
                   refine ⟨_,rfl,?_⟩
                   refine hK.out _ _ ⟨(aA dh.out 0).trans rfl,(aA dh.out 1).trans rfl,(aA dh.out 2).trans rfl,(aA dh.out 3).trans rfl,(aA dh.out 4).trans rfl⟩ (fun hHeld => ?_)
                   clear hK K
                   refine norm_ (a':=?_) ?_ ?_
                   rotate_left
                   ·show Act.put _ (some 89) _ = _
                    simp only [Act.put,bF,bH,bG,fJ,fH]
                    rfl
                   refine pure_ (i:=5) (N:=some 90) (v:=?_) (a':=?_) #[true,true,true,true,true,true,true,true,false,false,false] rfl rfl (qo HT_.out (by kernel_rfl)) (fun _ _ _ h => h) (Or.inl ⟨by rfl,?_⟩) ?_ ?_
                   rotate_left
                   ·intro w'
                    go_simp
                    with_reducible rfl
                   rotate_left
                   ·simp only [Act.put,bF,bH,bG,fJ,fH]
                    rfl
                   refine one_ (i:=8) (N:=some 93) #[true,true,true,true,true,true,true,true,true,false,false] rfl rfl (Cb HT_.out (by kernel_rfl)) (by decide) (fun K hK => ?_)
                   refine goes_ Tryz.func44 (by kernel_rfl) rfl #[.int .i64 qK] (by rfl) rfl rfl (by (try simp only [List.map_toArray,List.map_cons,List.map_nil]); first | done | rfl | (simp only [List.length_drop,List.length_take]; rfl)) ?_
                   with_reducible refine (aJ.calls Xp qK Dk _ A53.out).mono ?_
                   rintro e w56 ⟨rfl,hb⟩
                   refine ⟨_,rfl,?_⟩
                   have n0_:=ah.mk (bU (g:=jr) (o:=.cells #[.slice (some uJ) dK.length iY,.slice iV fK.length iZ,.slice iW eP.length jc] 26 (0,0)) (by (with_reducible repeat (first | refine aG ?_ _ | refine aQ ?_ | refine aC ?_ _)); exact dL.out) hb)
                   have n1_:=ah.mk (bU (g:=fG) (o:=.cells #[.int .i64 jq,.int .i64 jH,.int .i64 qF,.int .i64 qJ,.int .i64 qK] 70 (0,0)) (by (with_reducible repeat (first | refine aG ?_ _ | refine aQ ?_ | refine aC ?_ _)); exact dh.out) hb)
                   have n2_:=ah.mk (bP (by repeat (first | (with_reducible first | exact HB.out | apply ak | apply aj | apply ay | refine aN ?_ qI.out | refine aN ?_ vC.out) | exact HB.out)) hb)
                   clear dL
                   clear dh
                   clear HB
                   have dL:=n0_
                   have dh:=n1_
                   have HB:=n2_
                   clear n0_ n1_ n2_
                   (try clear hb)
                   (try clear hb2)
                   (try clear hk)
                   (try clear hi)
                   refine hK.out _ _ ⟨(aA dh.out 0).trans rfl,(aA dh.out 1).trans rfl,(aA dh.out 2).trans rfl,(aA dh.out 3).trans rfl,(aA dh.out 4).trans rfl⟩ (fun hHeld => ?_)
                   clear hK K
                   refine norm_ (a':=?_) ?_ ?_
                   rotate_left
                   ·show Act.put _ (some 93) _ = _
                    simp only [Act.put,bF,bH,bG,fJ,fH]
                    rfl
                   refine pure_ (i:=9) (N:=some 94) (v:=?_) (a':=?_) #[true,true,true,true,true,true,true,true,true,true,false] rfl rfl (qo HT_.out (by kernel_rfl)) (fun _ _ _ h => h) (Or.inl ⟨by rfl,?_⟩) ?_ ?_
                   rotate_left
                   ·intro w'
                    go_simp
                    with_reducible rfl
                   rotate_left
                   ·simp only [Act.put,bF,bH,bG,fJ,fH]
                    rfl
                   refine pure_ (i:=10) (N:=some 8) (v:=?_) (a':=?_) #[true,true,true,true,true,true,true,true,true,true,true] rfl rfl (qo HT_.out (by kernel_rfl)) (fun _ _ _ h => h) (Or.inl ⟨by rfl,?_⟩) ?_ ?_
                   rotate_left
                   ·intro w'
                    go_simp
                    with_reducible rfl
                   rotate_left
                   ·simp only [Act.put,bF,bH,bG,fJ,fH]
                    rfl
                   refine done_ (Ll HT_.out (by kernel_rfl)) ?_
                   try go_wp2
                   go_ret2
                   exact ⟨by first | rfl | (simp [bZ,cO] <;> rfl) | (simp [*,bZ,cO] <;> rfl),by repeat (first | (with_reducible first | exact HB.out | apply ak | apply aj | apply ay | refine aN ?_ qI.out | refine aN ?_ vC.out) | exact HB.out)⟩
                  ·rw [if_neg c54] at H
                   exact absurd H (by simp)
                 ·rw [if_neg c52] at H
                  exact absurd H (by simp)
                ·rw [if_neg c50] at H
                 exact absurd H (by simp)
               ·replace c49:=Bool.eq_false_iff.mpr c49
                subst c49
                have H1 : (some (rE,0)) = some (r1,r2):=by rw [if_neg (show ¬ (false = true) by decide)] at H; exact H
                clear H
                have H:=H1
                clear H1
                simp only [Option.some.injEq,Prod.mk.injEq] at H
                obtain ⟨rfl,rfl⟩:=H
                go_wp2
                go_ret2
                exact ⟨by first | rfl | (simp [bZ,cO] <;> rfl) | (simp [*,bZ,cO] <;> rfl),by repeat (first | (with_reducible first | exact HB.out | apply ak | apply aj | apply ay | refine aN ?_ qI.out | refine aN ?_ vC.out) | exact HB.out)⟩
      ·rw [if_neg c11] at H
       have Dw : (NW == 0) = false:=beq_eq_false_iff_ne.mpr c11
       have Ei : (NW != 0) = true:=bne_iff_ne.mpr c11
       simp only [Option.some.injEq,Prod.mk.injEq] at H
       obtain ⟨rfl,rfl⟩:=H
       have agR : wc.cell? ⟨jr,0,none⟩ = some (.slice wS dK.length iY):=(aA dL.out 0).trans rfl
       have agS : wc.cell? ⟨jr,1,none⟩ = some (.slice iV fK.length iZ):=(aA dL.out 1).trans rfl
       have agT : wc.cell? ⟨jr,2,none⟩ = some (.slice iW eP.length jc):=(aA dL.out 2).trans rfl
       have ahw:=au dL.out 0
       have ahx:=au dL.out 1
       have ahy:=au dL.out 2
       have Jd : 0 ≤ (a1 : Int):=of_decide_eq_true (by first | (with_reducible assumption) | assumption)
       have Jh : a1 < (dK.length : Int):=of_decide_eq_true (by first | (with_reducible assumption) | assumption)
       obtain ⟨uJ,ab6,uS⟩:=Kd.tN J3.out a1 Jd Jh
       cases ab6
       try replace uS:=(HB.out.cell (World.block_lt_of_cell? w _ uS)).trans uS
       replace Jd:=eq_true Jd
       replace Jh:=eq_true Jh
       go_wp2_with (first | ((with_reducible refine dn (f:=40) rfl ?_); refine goesL_ (some 32) rfl rfl Tryz.func40 (by kernel_rfl) rfl #[.int .u32 (rd dK a1)] rfl (by (try simp only [List.map_toArray,List.map_cons,List.map_nil]); first | done | rfl | (simp only [List.length_drop,List.length_take]; rfl)) ?_; (with_reducible refine (dJ.calls (rd dK a1) jq jH qF qJ qK NW _ Yi.out).mono ?_); rintro e w58 ⟨rfl,hb⟩; refine ⟨_,rfl,?_⟩; have n0_:=ah.mk (bU (g:=jr) (o:=.cells #[.slice (some uJ) dK.length iY,.slice iV fK.length iZ,.slice iW eP.length jc] 26 (0,0)) (by (with_reducible repeat (first | refine aG ?_ _ | refine aQ ?_ | refine aC ?_ _)); exact dL.out) hb); have n1_:=ah.mk (bP (by repeat (first | (with_reducible first | exact HB.out | apply ak | apply aj | apply ay | refine aN ?_ qI.out) | exact HB.out)) hb); clear dL; clear HB; have dL:=n0_; have HB:=n1_; clear n0_ n1_; (try clear hb); (try clear hb2); (try clear hk); (try clear hi)) | ((with_reducible refine bI (N:=6) rfl ?_); (try (refine tV (by rfl) ?_; dsimp only)); refine dV ?hg (N:=6) ?hd (cs:=#[.int .i64 0,.int .i64 0,.int .i64 0,.int .i64 0,.int .i64 0]) (t:=70) ?hr ?_; (case hd => rfl); (case hg => rfl); (case hr => first | (go_simp; done) | (go_simp; rfl)); intro fG hg w59 hbox hb; have n0_:=ah.mk (bU (g:=jr) (o:=.cells #[.slice (some uJ) dK.length iY,.slice iV fK.length iZ,.slice iW eP.length jc] 26 (0,0)) (by (with_reducible repeat (first | refine aG ?_ _ | refine aQ ?_ | refine aC ?_ _)); exact dL.out) hb); have n1_:=ah.mk (bP (by repeat (first | (with_reducible first | exact HB.out | apply ak | apply aj | apply ay | refine aN ?_ qI.out) | exact HB.out)) hb); have n2_:=ah.mk (hbox); have n3_:=ah.mk ((by rw [hg]; exact (bV (by repeat (first | (with_reducible first | exact HB.out | apply ak | apply aj | apply ay | refine aN ?_ qI.out) | exact HB.out))) : w.heap.size ≤ fG)); have n4_:=ah.mk ((by rw [hg]; exact (bV (by repeat (first | (with_reducible first | exact HB.out | apply ak | apply aj | apply ay | refine aN ?_ qI.out) | exact HB.out))) : w.heap.size ≤ fG)); have n5_:=ah.mk ((by rw [hg]; exact Nat.ne_of_lt (je (g:=jr) (o:=.cells #[.slice (some uJ) dK.length iY,.slice iV fK.length iZ,.slice iW eP.length jc] 26 (0,0)) (by (with_reducible repeat (first | refine aG ?_ _ | refine aQ ?_ | refine aC ?_ _)); exact dL.out)) : jr ≠ fG)); have n6_:=ah.mk ((by rw [hg]; exact Nat.ne_of_gt (je (g:=jr) (o:=.cells #[.slice (some uJ) dK.length iY,.slice iV fK.length iZ,.slice iW eP.length jc] 26 (0,0)) (by (with_reducible repeat (first | refine aG ?_ _ | refine aQ ?_ | refine aC ?_ _)); exact dL.out)) : fG ≠ jr)); clear dL; clear HB; have dL:=n0_; have HB:=n1_; have dh:=n2_; have aec:=n3_; have vC:=n4_; have qM:=n5_; have xA:=n6_; clear n0_ n1_ n2_ n3_ n4_ n5_ n6_; clear hb hbox hg; have ak6:=xA.out; have alf:=qM.out; have agU : w59.cell? ⟨fG,0,none⟩ = some (.int .i64 0):=(aA dh.out 0).trans rfl; have agV : w59.cell? ⟨fG,1,none⟩ = some (.int .i64 0):=(aA dh.out 1).trans rfl; have agW : w59.cell? ⟨fG,2,none⟩ = some (.int .i64 0):=(aA dh.out 2).trans rfl; have agX : w59.cell? ⟨fG,3,none⟩ = some (.int .i64 0):=(aA dh.out 3).trans rfl; have agY : w59.cell? ⟨fG,4,none⟩ = some (.int .i64 0):=(aA dh.out 4).trans rfl; have ahz:=au dh.out 0; have ahA:=au dh.out 1; have ahB:=au dh.out 2; have ahC:=au dh.out 3; have ahD:=au dh.out 4))
       go_ret2
       exact ⟨by first | rfl | (simp [bZ,cO] <;> rfl) | (simp [*,bZ,cO] <;> rfl),by repeat (first | (with_reducible first | exact HB.out | apply ak | apply aj | apply ay | refine aN ?_ qI.out | refine aN ?_ vC.out) | exact HB.out)⟩
     ·rw [if_neg c9] at H
      exact absurd H (by simp)
    ·rw [if_neg c8] at H
     exact absurd H (by simp)
end Go.Proofs.YtdbpglhdicmhhaaGreatDoor.GA
end
