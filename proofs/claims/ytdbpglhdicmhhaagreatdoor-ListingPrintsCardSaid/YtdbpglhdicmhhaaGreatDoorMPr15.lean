import Derived.Test.YtdbpglhdicmhhaaGreatDoorMPr3
import Derived.Test.YtdbpglhdicmhhaaGreatDoorMPr4
import Derived.Test.YtdbpglhdicmhhaaGreatDoorMPr13
import Derived.Lib.Hide
import Derived.WalkKit
set_option maxHeartbeats 8000000
set_option maxRecDepth 100000
set_option linter.unusedVariables false
set_option linter.unusedSimpArgs false
section
namespace Go.Proofs.YtdbpglhdicmhhaaGreatDoor.GA
open Go.RowKit Go.Proofs.YtdbpglhdicmhhaaGreatDoorW.aI Go.Proofs.YtdbpglhdicmhhaaGreatDoorW.aX Go.Proofs.YtdbpglhdicmhhaaGreatDoorW.aZ iM
def dQ.f (a0 : Int) : Option (Int × Int × Int × Int × Int × Int):=(fO.f (wrap64 (a0 / 16777216))).bind fun IE => (if IE.2.2.2.2.2 = 0 then (if IE.2.1 = 6 then ((jg.f (wrap64 (a0 / 16777216)) (wrap64 (Go.bits .and .u32 (a0 / 1048576) 15)) (wrap64 (Go.bits .and .u32 (a0 / 65536) 15)) 0 (wrap64 (IntKind.i16.wrap (a0))) IE.2.1).bind fun ajd => (if ajd = true then (some (wrap64 (a0 / 16777216),wrap64 (Go.bits .and .u32 (a0 / 1048576) 15),wrap64 (Go.bits .and .u32 (a0 / 65536) 15),0,wrap64 (IntKind.i16.wrap (a0)),0)) else (some (0,0,0,0,0,61)))) else (if IE.2.1 = 3 then ((jg.f (wrap64 (a0 / 16777216)) (wrap64 (Go.bits .and .u32 (a0 / 1048576) 15)) (wrap64 (Go.bits .and .u32 (a0 / 65536) 15)) (wrap64 (Go.bits .and .u32 a0 15)) (wrap64 (Go.bits .and .u32 a0 65520)) IE.2.1).bind fun aje => (if aje = true then (some (wrap64 (a0 / 16777216),wrap64 (Go.bits .and .u32 (a0 / 1048576) 15),wrap64 (Go.bits .and .u32 (a0 / 65536) 15),wrap64 (Go.bits .and .u32 a0 15),wrap64 (Go.bits .and .u32 a0 65520),0)) else (some (0,0,0,0,0,61)))) else ((jg.f (wrap64 (a0 / 16777216)) (wrap64 (Go.bits .and .u32 (a0 / 1048576) 15)) (wrap64 (Go.bits .and .u32 (a0 / 65536) 15)) 0 (wrap64 (Go.bits .and .u32 a0 65535)) IE.2.1).bind fun ajf => (if ajf = true then (some (wrap64 (a0 / 16777216),wrap64 (Go.bits .and .u32 (a0 / 1048576) 15),wrap64 (Go.bits .and .u32 (a0 / 65536) 15),0,wrap64 (Go.bits .and .u32 a0 65535),0)) else (some (0,0,0,0,0,61)))))) else (some (0,0,0,0,0,IE.2.2.2.2.2)))
theorem dQ.calls (a0 : Int) (r1 : Int) (r2 : Int) (r3 : Int) (r4 : Int) (r5 : Int) (r6 : Int) (w : World) (h : dQ.f a0 = some (r1,r2,r3,r4,r5,r6)) :
  Calls Tryz.prog 34 #[.int .u32 a0] w fun e w' => e = .returned (.tuple #[.agg #[.int .i64 r1,.int .i64 r2,.int .i64 r3,.int .i64 r4,.int .i64 r5],.int .i64 r6]) ∧ Below w.heap.size w w':=by
 have I9:=Tryz.underlying70
 unfold dQ.f at h
 obtain ⟨⟨Z7,xg,t105,Gi,t107,adu⟩,hA,h⟩:=Option.bind_eq_some_iff.mp h
 dsimp only at h
 have HA:=Lib.hid hA
 clear hA
 have H:=Lib.hid h
 clear h
 have M0:=ah.mk (Mem.start [3] w)
 go_enter Tryz.func34,Tryz.ntmps34
 go_wp2_with (first
   | (refine eB M0 2 #[.int .i64 0,.int .i64 0,.int .i64 0,.int .i64 0,.int .i64 0] 70 ?_; clear M0; intro g2 w2 M1)
   | (refine eB M1 4 #[.int .i64 0,.int .i64 0,.int .i64 0,.int .i64 0,.int .i64 0] 70 ?_; clear M1; intro g4 w4 M2)
   | (refine eR M2 70 4 1 #[_,_,_,.int .i64 0,.int .i64 0] ?_; clear M2; intro w_ M3)
   | (refine eC M3 21 1 0 (_) ?_))
 refine (fO.calls _ _ _ _ _ _ _ _ HA.out).mono ?_
 rintro e W22 ⟨rfl,hb⟩
 have M4:=ah.mk (Mem.call M3.out hb)
 clear M3 hb
 by_cases bA : adu = 0
 ·have h:=H.out
  clear H
  rw [if_pos bA] at h
  have H:=Lib.hid h
  clear h
  have e1 : (adu != 0) = false:=bne_eq_false_iff_eq.mpr bA
  clear bA
  by_cases bB : xg = 6
  ·have h:=H.out
   clear H
   rw [if_pos bB] at h
   have H:=Lib.hid h
   clear h
   have h:=H.out
   clear H
   obtain ⟨tf,hB,h⟩:=Option.bind_eq_some_iff.mp h
   have HB:=Lib.hid hB
   clear hB
   have H:=Lib.hid h
   clear h
   have e2 : (xg == 6) = true:=beq_iff_eq.mpr bB
   clear bB
   go_wp2_with (first
     | (refine eB M4 5 #[.string ⟨#[]⟩,.int .i64 0,.int .i64 0,.string ⟨#[]⟩,.string ⟨#[]⟩] 127 ?_; clear M4; intro g5 w5 M5)
     | (refine eR M5 127 5 2 #[.string Z7,.int .i64 xg,.int .i64 t105,.string Gi,.string t107] ?_; clear M5; intro w_ M6)
     | (refine eC M6 30 2 1 (.int .i64 xg) ?_)
     | (refine eS M6 3 40 1 4 (_) #[_,_,_,.int .i64 0,_] ?_; clear M6; intro w_ M7)
     | (refine eL M7 51 1 I9 ?_)
     | (refine eC M7 53 2 1 (.int .i64 xg) ?_))
   refine (jg.calls _ _ _ _ _ _ _ _ HB.out).mono ?_
   rintro e W54 ⟨rfl,hb⟩
   have M8:=ah.mk (Mem.call M7.out hb)
   clear M7 hb
   by_cases bD : tf = true
   ·subst bD
    have h:=H.out
    clear H
    rw [if_pos rfl] at h
    have H:=Lib.hid h
    clear h
    go_wp2_with (first
      | (refine eL M8 57 1 I9 ?_)
      | (refine eR M8 70 2 0 #[_,_,_,.int .i64 0,_] ?_; clear M8; intro w_ M9))
    have h:=H.out
    clear H
    simp only [Option.some.injEq,Prod.mk.injEq] at h
    obtain ⟨rfl,rfl,rfl,rfl,rfl,rfl⟩:=h
    exact bodyPost_ret (dw rfl _ _ g2 70 _ (0,0) _ rfl (M9.out.at 0 rfl) Tryz.underlying70 rfl (by kernel_rfl)) rfl ⟨rfl,M9.out.below⟩
   ·replace bD:=Bool.eq_false_iff.mpr bD
    subst bD
    have h:=H.out
    clear H
    rw [if_neg (by decide)] at h
    have H:=Lib.hid h
    clear h
    go_wp2_with (first
      | (refine eR M8 70 2 0 #[.int .i64 0,.int .i64 0,.int .i64 0,.int .i64 0,.int .i64 0] ?_; clear M8; intro w_ M9))
    have h:=H.out
    clear H
    simp only [Option.some.injEq,Prod.mk.injEq] at h
    obtain ⟨rfl,rfl,rfl,rfl,rfl,rfl⟩:=h
    exact bodyPost_ret (dw rfl _ _ g2 70 _ (0,0) _ rfl (M9.out.at 0 rfl) Tryz.underlying70 rfl (by kernel_rfl)) rfl ⟨rfl,M9.out.below⟩
  ·have h:=H.out
   clear H
   rw [if_neg bB] at h
   have H:=Lib.hid h
   clear h
   have e2 : (xg == 6) = false:=beq_eq_false_iff_ne.mpr bB
   clear bB
   by_cases bC : xg = 3
   ·have h:=H.out
    clear H
    rw [if_pos bC] at h
    have H:=Lib.hid h
    clear h
    have h:=H.out
    clear H
    obtain ⟨tf,hB,h⟩:=Option.bind_eq_some_iff.mp h
    have HB:=Lib.hid hB
    clear hB
    have H:=Lib.hid h
    clear h
    have e3 : (xg == 3) = true:=beq_iff_eq.mpr bC
    clear bC
    go_wp2_with (first
      | (refine eB M4 5 #[.string ⟨#[]⟩,.int .i64 0,.int .i64 0,.string ⟨#[]⟩,.string ⟨#[]⟩] 127 ?_; clear M4; intro g5 w5 M5)
      | (refine eR M5 127 5 2 #[.string Z7,.int .i64 xg,.int .i64 t105,.string Gi,.string t107] ?_; clear M5; intro w_ M6)
      | (refine eC M6 30 2 1 (.int .i64 xg) ?_)
      | (refine eS M6 3 49 1 3 (_) #[_,_,_,_,.int .i64 0] ?_; clear M6; intro w_ M7)
      | (refine eS M7 3 50 1 4 (_) #[_,_,_,_,_] ?_; clear M7; intro w_ M8)
      | (refine eL M8 51 1 I9 ?_)
      | (refine eC M8 53 2 1 (.int .i64 xg) ?_))
    refine (jg.calls _ _ _ _ _ _ _ _ HB.out).mono ?_
    rintro e W54 ⟨rfl,hb⟩
    have M9:=ah.mk (Mem.call M8.out hb)
    clear M8 hb
    by_cases bD : tf = true
    ·subst bD
     have h:=H.out
     clear H
     rw [if_pos rfl] at h
     have H:=Lib.hid h
     clear h
     go_wp2_with (first
       | (refine eL M9 57 1 I9 ?_)
       | (refine eR M9 70 2 0 #[_,_,_,_,_] ?_; clear M9; intro w_ M10))
     have h:=H.out
     clear H
     simp only [Option.some.injEq,Prod.mk.injEq] at h
     obtain ⟨rfl,rfl,rfl,rfl,rfl,rfl⟩:=h
     exact bodyPost_ret (dw rfl _ _ g2 70 _ (0,0) _ rfl (M10.out.at 0 rfl) Tryz.underlying70 rfl (by kernel_rfl)) rfl ⟨rfl,M10.out.below⟩
    ·replace bD:=Bool.eq_false_iff.mpr bD
     subst bD
     have h:=H.out
     clear H
     rw [if_neg (by decide)] at h
     have H:=Lib.hid h
     clear h
     go_wp2_with (first
       | (refine eR M9 70 2 0 #[.int .i64 0,.int .i64 0,.int .i64 0,.int .i64 0,.int .i64 0] ?_; clear M9; intro w_ M10))
     have h:=H.out
     clear H
     simp only [Option.some.injEq,Prod.mk.injEq] at h
     obtain ⟨rfl,rfl,rfl,rfl,rfl,rfl⟩:=h
     exact bodyPost_ret (dw rfl _ _ g2 70 _ (0,0) _ rfl (M10.out.at 0 rfl) Tryz.underlying70 rfl (by kernel_rfl)) rfl ⟨rfl,M10.out.below⟩
   ·have h:=H.out
    clear H
    rw [if_neg bC] at h
    have H:=Lib.hid h
    clear h
    have h:=H.out
    clear H
    obtain ⟨tf,hB,h⟩:=Option.bind_eq_some_iff.mp h
    have HB:=Lib.hid hB
    clear hB
    have H:=Lib.hid h
    clear h
    have e3 : (xg == 3) = false:=beq_eq_false_iff_ne.mpr bC
    clear bC
    go_wp2_with (first
      | (refine eB M4 5 #[.string ⟨#[]⟩,.int .i64 0,.int .i64 0,.string ⟨#[]⟩,.string ⟨#[]⟩] 127 ?_; clear M4; intro g5 w5 M5)
      | (refine eR M5 127 5 2 #[.string Z7,.int .i64 xg,.int .i64 t105,.string Gi,.string t107] ?_; clear M5; intro w_ M6)
      | (refine eC M6 30 2 1 (.int .i64 xg) ?_)
      | (refine eS M6 3 34 1 4 (_) #[_,_,_,.int .i64 0,_] ?_; clear M6; intro w_ M7)
      | (refine eL M7 51 1 I9 ?_)
      | (refine eC M7 53 2 1 (.int .i64 xg) ?_))
    refine (jg.calls _ _ _ _ _ _ _ _ HB.out).mono ?_
    rintro e W54 ⟨rfl,hb⟩
    have M8:=ah.mk (Mem.call M7.out hb)
    clear M7 hb
    by_cases bD : tf = true
    ·subst bD
     have h:=H.out
     clear H
     rw [if_pos rfl] at h
     have H:=Lib.hid h
     clear h
     go_wp2_with (first
       | (refine eL M8 57 1 I9 ?_)
       | (refine eR M8 70 2 0 #[_,_,_,.int .i64 0,_] ?_; clear M8; intro w_ M9))
     have h:=H.out
     clear H
     simp only [Option.some.injEq,Prod.mk.injEq] at h
     obtain ⟨rfl,rfl,rfl,rfl,rfl,rfl⟩:=h
     exact bodyPost_ret (dw rfl _ _ g2 70 _ (0,0) _ rfl (M9.out.at 0 rfl) Tryz.underlying70 rfl (by kernel_rfl)) rfl ⟨rfl,M9.out.below⟩
    ·replace bD:=Bool.eq_false_iff.mpr bD
     subst bD
     have h:=H.out
     clear H
     rw [if_neg (by decide)] at h
     have H:=Lib.hid h
     clear h
     go_wp2_with (first
       | (refine eR M8 70 2 0 #[.int .i64 0,.int .i64 0,.int .i64 0,.int .i64 0,.int .i64 0] ?_; clear M8; intro w_ M9))
     have h:=H.out
     clear H
     simp only [Option.some.injEq,Prod.mk.injEq] at h
     obtain ⟨rfl,rfl,rfl,rfl,rfl,rfl⟩:=h
     exact bodyPost_ret (dw rfl _ _ g2 70 _ (0,0) _ rfl (M9.out.at 0 rfl) Tryz.underlying70 rfl (by kernel_rfl)) rfl ⟨rfl,M9.out.below⟩
 ·have h:=H.out
  clear H
  rw [if_neg bA] at h
  have H:=Lib.hid h
  clear h
  have e1 : (adu != 0) = true:=bne_iff_ne.mpr bA
  clear bA
  go_wp2_with (first
    | (refine eB M4 5 #[.string ⟨#[]⟩,.int .i64 0,.int .i64 0,.string ⟨#[]⟩,.string ⟨#[]⟩] 127 ?_; clear M4; intro g5 w5 M5)
    | (refine eR M5 127 5 2 #[.string Z7,.int .i64 xg,.int .i64 t105,.string Gi,.string t107] ?_; clear M5; intro w_ M6)
    | (refine eR M6 70 2 0 #[.int .i64 0,.int .i64 0,.int .i64 0,.int .i64 0,.int .i64 0] ?_; clear M6; intro w_ M7))
  have h:=H.out
  clear H
  simp only [Option.some.injEq,Prod.mk.injEq] at h
  obtain ⟨rfl,rfl,rfl,rfl,rfl,rfl⟩:=h
  exact bodyPost_ret (dw rfl _ _ g2 70 _ (0,0) _ rfl (M7.out.at 0 rfl) Tryz.underlying70 rfl (by kernel_rfl)) rfl ⟨rfl,M7.out.below⟩
end Go.Proofs.YtdbpglhdicmhhaaGreatDoor.GA
end

section

end

section
namespace Go.Proofs.YtdbpglhdicmhhaaGreatDoor.GA
open Go.RowKit Go.Proofs.YtdbpglhdicmhhaaGreatDoorW.aI Go.Proofs.YtdbpglhdicmhhaaGreatDoorW.aX Go.Proofs.YtdbpglhdicmhhaaGreatDoorW.aZ
def uy.f (a0 : Int) : Option (ByteArray × Int):=(fO.f a0).bind fun Ox => (some (Ox.1,Ox.2.2.2.2.2))
theorem uy.calls (a0 : Int) (r1 : ByteArray) (r2 : Int) (w : World) (h : uy.f a0 = some (r1,r2)) :
  Calls Tryz.prog 35 #[.int .i64 a0] w fun e w' => e = .returned (.tuple #[.string r1,.int .i64 r2]) ∧ Below w.heap.size w w':=by
 have aaZ:=Tryz.underlying127
 have HB:=ah.mk (Below.refl w.heap.size w)
 have H : ((fO.f a0).bind fun Ox => (some (Ox.1,Ox.2.2.2.2.2))) = some (r1,r2):=h
 clear h
 replace H:=Option.bind_eq_some_iff.mp H
 obtain ⟨⟨afD,ajh,aji,ajj,ajk,afE⟩,RP,H⟩:=H
 replace H : (some (afD,afE)) = some (r1,r2):=H
 have A2:=ah.mk RP
 clear RP
 simp only [Option.some.injEq,Prod.mk.injEq] at H
 obtain ⟨rfl,rfl⟩:=H
 go_enter Tryz.func35,Tryz.ntmps35
 go_wp2_with (first | ((with_reducible refine dn (f:=80) rfl ?_); refine goesL_ (some 8) rfl rfl Tryz.func80 (by kernel_rfl) rfl #[.int .i64 a0] rfl (by (try simp only [List.map_toArray,List.map_cons,List.map_nil]); first | done | rfl | (simp only [List.length_drop,List.length_take]; rfl)) ?_; (with_reducible refine (fO.calls a0 afD ajh aji ajj ajk afE _ A2.out).mono ?_); rintro e w3 ⟨rfl,hb⟩; refine ⟨_,rfl,?_⟩; have n0_:=ah.mk (bP (by repeat (first | (with_reducible first | exact HB.out | apply ak | apply aj | apply ay) | exact HB.out)) hb); clear HB; have HB:=n0_; clear n0_; (try clear hb); (try clear hb2); (try clear hk); (try clear hi)) | ((with_reducible refine bI (N:=4) rfl ?_); refine dV ?hg (N:=4) ?hd (cs:=#[.string (⟨#[]⟩ : ByteArray),.int .i64 0,.int .i64 0,.string (⟨#[]⟩ : ByteArray),.string (⟨#[]⟩ : ByteArray)]) (t:=127) ?hr ?_; (case hd => rfl); (case hg => rfl); (case hr => first | (go_simp; done) | (go_simp; rfl)); intro I5 hg w4 hbox hb; have n0_:=ah.mk (bP (by repeat (first | (with_reducible first | exact HB.out | apply ak | apply aj | apply ay) | exact HB.out)) hb); have n1_:=ah.mk (hbox); have n2_:=ah.mk ((by rw [hg]; exact (bV (by repeat (first | (with_reducible first | exact HB.out | apply ak | apply aj | apply ay) | exact HB.out))) : w.heap.size ≤ I5)); have n3_:=ah.mk ((by rw [hg]; exact (bV (by repeat (first | (with_reducible first | exact HB.out | apply ak | apply aj | apply ay) | exact HB.out))) : w.heap.size ≤ I5)); clear HB; have HB:=n0_; have Dq:=n1_; have ajJ:=n2_; have ad8:=n3_; clear n0_ n1_ n2_ n3_; clear hb hbox hg; have acn : w4.cell? ⟨I5,0,none⟩ = some (.string (⟨#[]⟩ : ByteArray)):=(aA Dq.out 0).trans rfl; have aco : w4.cell? ⟨I5,1,none⟩ = some (.int .i64 0):=(aA Dq.out 1).trans rfl; have acp : w4.cell? ⟨I5,2,none⟩ = some (.int .i64 0):=(aA Dq.out 2).trans rfl; have acr : w4.cell? ⟨I5,3,none⟩ = some (.string (⟨#[]⟩ : ByteArray)):=(aA Dq.out 3).trans rfl; have acs : w4.cell? ⟨I5,4,none⟩ = some (.string (⟨#[]⟩ : ByteArray)):=(aA Dq.out 4).trans rfl; have acD:=au Dq.out 0; have acE:=au Dq.out 1; have acF:=au Dq.out 2; have acG:=au Dq.out 3; have acH:=au Dq.out 4))
 go_ret2
 exact ⟨by first | rfl | (simp [bZ,cO] <;> rfl) | (simp [*,bZ,cO] <;> rfl),by repeat (first | (with_reducible first | exact HB.out | apply ak | apply aj | apply ay | refine aN ?_ ad8.out) | exact HB.out)⟩
end Go.Proofs.YtdbpglhdicmhhaaGreatDoor.GA
end

section
namespace Go.Proofs.YtdbpglhdicmhhaaGreatDoor.GA
open Go.RowKit Go.Proofs.YtdbpglhdicmhhaaGreatDoorW.aI Go.Proofs.YtdbpglhdicmhhaaGreatDoorW.aX Go.Proofs.YtdbpglhdicmhhaaGreatDoorW.aZ
def eF.f (a0 : Int) : Option (Int × Int):=(fO.f a0).bind fun Ou => (some (Ou.2.1,Ou.2.2.2.2.2))
theorem eF.calls (a0 : Int) (r1 : Int) (r2 : Int) (w : World) (h : eF.f a0 = some (r1,r2)) :
  Calls Tryz.prog 36 #[.int .i64 a0] w fun e w' => e = .returned (.tuple #[.int .i64 r1,.int .i64 r2]) ∧ Below w.heap.size w w':=by
 have aaZ:=Tryz.underlying127
 have HB:=ah.mk (Below.refl w.heap.size w)
 have H : ((fO.f a0).bind fun Ou => (some (Ou.2.1,Ou.2.2.2.2.2))) = some (r1,r2):=h
 clear h
 replace H:=Option.bind_eq_some_iff.mp H
 obtain ⟨⟨t152,afx,t154,ajg,t156,t157⟩,RP,H⟩:=H
 replace H : (some (afx,t157)) = some (r1,r2):=H
 have A2:=ah.mk RP
 clear RP
 simp only [Option.some.injEq,Prod.mk.injEq] at H
 obtain ⟨rfl,rfl⟩:=H
 go_enter Tryz.func36,Tryz.ntmps36
 go_wp2_with (first | ((with_reducible refine dn (f:=80) rfl ?_); refine goesL_ (some 8) rfl rfl Tryz.func80 (by kernel_rfl) rfl #[.int .i64 a0] rfl (by (try simp only [List.map_toArray,List.map_cons,List.map_nil]); first | done | rfl | (simp only [List.length_drop,List.length_take]; rfl)) ?_; (with_reducible refine (fO.calls a0 t152 afx t154 ajg t156 t157 _ A2.out).mono ?_); rintro e w3 ⟨rfl,hb⟩; refine ⟨_,rfl,?_⟩; have n0_:=ah.mk (bP (by repeat (first | (with_reducible first | exact HB.out | apply ak | apply aj | apply ay) | exact HB.out)) hb); clear HB; have HB:=n0_; clear n0_; (try clear hb); (try clear hb2); (try clear hk); (try clear hi)) | ((with_reducible refine bI (N:=4) rfl ?_); refine dV ?hg (N:=4) ?hd (cs:=#[.string (⟨#[]⟩ : ByteArray),.int .i64 0,.int .i64 0,.string (⟨#[]⟩ : ByteArray),.string (⟨#[]⟩ : ByteArray)]) (t:=127) ?hr ?_; (case hd => rfl); (case hg => rfl); (case hr => first | (go_simp; done) | (go_simp; rfl)); intro I4 hg w4 hbox hb; have n0_:=ah.mk (bP (by repeat (first | (with_reducible first | exact HB.out | apply ak | apply aj | apply ay) | exact HB.out)) hb); have n1_:=ah.mk (hbox); have n2_:=ah.mk ((by rw [hg]; exact (bV (by repeat (first | (with_reducible first | exact HB.out | apply ak | apply aj | apply ay) | exact HB.out))) : w.heap.size ≤ I4)); have n3_:=ah.mk ((by rw [hg]; exact (bV (by repeat (first | (with_reducible first | exact HB.out | apply ak | apply aj | apply ay) | exact HB.out))) : w.heap.size ≤ I4)); clear HB; have HB:=n0_; have Dn:=n1_; have ajF:=n2_; have ad6:=n3_; clear n0_ n1_ n2_ n3_; clear hb hbox hg; have acn : w4.cell? ⟨I4,0,none⟩ = some (.string (⟨#[]⟩ : ByteArray)):=(aA Dn.out 0).trans rfl; have aco : w4.cell? ⟨I4,1,none⟩ = some (.int .i64 0):=(aA Dn.out 1).trans rfl; have acp : w4.cell? ⟨I4,2,none⟩ = some (.int .i64 0):=(aA Dn.out 2).trans rfl; have acr : w4.cell? ⟨I4,3,none⟩ = some (.string (⟨#[]⟩ : ByteArray)):=(aA Dn.out 3).trans rfl; have acs : w4.cell? ⟨I4,4,none⟩ = some (.string (⟨#[]⟩ : ByteArray)):=(aA Dn.out 4).trans rfl; have acD:=au Dn.out 0; have acE:=au Dn.out 1; have acF:=au Dn.out 2; have acG:=au Dn.out 3; have acH:=au Dn.out 4))
 go_ret2
 exact ⟨by first | rfl | (simp [bZ,cO] <;> rfl) | (simp [*,bZ,cO] <;> rfl),by repeat (first | (with_reducible first | exact HB.out | apply ak | apply aj | apply ay | refine aN ?_ ad6.out) | exact HB.out)⟩
end Go.Proofs.YtdbpglhdicmhhaaGreatDoor.GA
end

section
namespace Go.Proofs.YtdbpglhdicmhhaaGreatDoor.GA
open Go.RowKit Go.Proofs.YtdbpglhdicmhhaaGreatDoorW.aI Go.Proofs.YtdbpglhdicmhhaaGreatDoorW.aX Go.Proofs.YtdbpglhdicmhhaaGreatDoorW.aZ iM
def dW.f (a0 : Int) : Option (ByteArray × Int × Int × ByteArray × ByteArray × Bool):=if a0 = 30 then (some ((⟨#[114,101,99,118]⟩ : ByteArray),3,2,(⟨#[99]⟩ : ByteArray),(⟨#[97,98]⟩ : ByteArray),true)) else (if a0 = 31 then (some ((⟨#[99,108,111,115,101]⟩ : ByteArray),1,2,(⟨#[97]⟩ : ByteArray),(⟨#[]⟩ : ByteArray),true)) else (if a0 = 32 then (some ((⟨#[108,101,110]⟩ : ByteArray),2,1,(⟨#[98]⟩ : ByteArray),(⟨#[97]⟩ : ByteArray),true)) else (if a0 = 33 then (some ((⟨#[99,97,112]⟩ : ByteArray),2,1,(⟨#[98]⟩ : ByteArray),(⟨#[97]⟩ : ByteArray),true)) else (if a0 = 34 then (some ((⟨#[115,101,108,101,99,116]⟩ : ByteArray),5,4,(⟨#[42]⟩ : ByteArray),(⟨#[42]⟩ : ByteArray),true)) else (if a0 = 35 then (some ((⟨#[108,111,99,107]⟩ : ByteArray),1,2,(⟨#[97]⟩ : ByteArray),(⟨#[]⟩ : ByteArray),true)) else (if a0 = 36 then (some ((⟨#[117,110,108,111,99,107]⟩ : ByteArray),1,2,(⟨#[97]⟩ : ByteArray),(⟨#[]⟩ : ByteArray),true)) else (if a0 = 37 then (some ((⟨#[114,108,111,99,107]⟩ : ByteArray),1,2,(⟨#[97]⟩ : ByteArray),(⟨#[]⟩ : ByteArray),true)) else (if a0 = 38 then (some ((⟨#[114,117,110,108,111,99,107]⟩ : ByteArray),1,2,(⟨#[97]⟩ : ByteArray),(⟨#[]⟩ : ByteArray),true)) else (if a0 = 39 then (some ((⟨#[119,97,100,100]⟩ : ByteArray),2,2,(⟨#[97,98]⟩ : ByteArray),(⟨#[]⟩ : ByteArray),true)) else (if a0 = 40 then (some ((⟨#[119,100,111,110,101]⟩ : ByteArray),1,2,(⟨#[97]⟩ : ByteArray),(⟨#[]⟩ : ByteArray),true)) else (if a0 = 41 then (some ((⟨#[119,119,97,105,116]⟩ : ByteArray),1,2,(⟨#[97]⟩ : ByteArray),(⟨#[]⟩ : ByteArray),true)) else (if a0 = 42 then (some ((⟨#[99,119,97,105,116]⟩ : ByteArray),2,3,(⟨#[97,98]⟩ : ByteArray),(⟨#[]⟩ : ByteArray),true)) else (if a0 = 43 then (some ((⟨#[115,105,103,110,97,108]⟩ : ByteArray),1,2,(⟨#[97]⟩ : ByteArray),(⟨#[]⟩ : ByteArray),true)) else (if a0 = 44 then (some ((⟨#[98,114,111,97,100,99,97,115,116]⟩ : ByteArray),1,3,(⟨#[97]⟩ : ByteArray),(⟨#[]⟩ : ByteArray),true)) else (if a0 = 45 then (some ((⟨#[97,99,113,117,105,114,101]⟩ : ByteArray),1,2,(⟨#[97]⟩ : ByteArray),(⟨#[]⟩ : ByteArray),true)) else (if a0 = 46 then (some ((⟨#[114,101,108,101,97,115,101]⟩ : ByteArray),1,2,(⟨#[97]⟩ : ByteArray),(⟨#[]⟩ : ByteArray),true)) else (if a0 = 47 then (some ((⟨#[108,111,97,100]⟩ : ByteArray),2,2,(⟨#[98]⟩ : ByteArray),(⟨#[97]⟩ : ByteArray),true)) else (if a0 = 48 then (some ((⟨#[115,116,111,114,101]⟩ : ByteArray),2,2,(⟨#[97,98]⟩ : ByteArray),(⟨#[]⟩ : ByteArray),true)) else (if a0 = 49 then (some ((⟨#[115,119,97,112]⟩ : ByteArray),3,3,(⟨#[97,98,99]⟩ : ByteArray),(⟨#[97]⟩ : ByteArray),true)) else (if a0 = 50 then (some ((⟨#[102,101,116,99,104]⟩ : ByteArray),3,3,(⟨#[98,99]⟩ : ByteArray),(⟨#[97]⟩ : ByteArray),true)) else (if a0 = 51 then (some ((⟨#[105,110,112,117,116]⟩ : ByteArray),2,2,(⟨#[]⟩ : ByteArray),(⟨#[97,98]⟩ : ByteArray),true)) else (if a0 = 52 then (some ((⟨#[111,117,116,112,117,116]⟩ : ByteArray),1,2,(⟨#[97]⟩ : ByteArray),(⟨#[]⟩ : ByteArray),true)) else (if a0 = 53 then (some ((⟨#[112,117,116]⟩ : ByteArray),3,2,(⟨#[97,98]⟩ : ByteArray),(⟨#[99]⟩ : ByteArray),true)) else (if a0 = 54 then (some ((⟨#[103,101,116]⟩ : ByteArray),3,2,(⟨#[99]⟩ : ByteArray),(⟨#[97,98]⟩ : ByteArray),true)) else (if a0 = 55 then (some ((⟨#[97,102,116,101,114]⟩ : ByteArray),3,3,(⟨#[98,99]⟩ : ByteArray),(⟨#[97]⟩ : ByteArray),true)) else (if a0 = 56 then (some ((⟨#[101,118,101,114,121]⟩ : ByteArray),3,3,(⟨#[98,99]⟩ : ByteArray),(⟨#[97]⟩ : ByteArray),true)) else (if a0 = 57 then (some ((⟨#[115,116,111,112]⟩ : ByteArray),2,2,(⟨#[98]⟩ : ByteArray),(⟨#[97]⟩ : ByteArray),true)) else (if a0 = 58 then (some ((⟨#[116,114,97,112]⟩ : ByteArray),4,1,(⟨#[]⟩ : ByteArray),(⟨#[]⟩ : ByteArray),true)) else (some ((⟨#[]⟩ : ByteArray),0,0,(⟨#[]⟩ : ByteArray),(⟨#[]⟩ : ByteArray),false))))))))))))))))))))))))))))))
theorem EW (a0 : Int) (r1 : ByteArray) (r2 : Int) (r3 : Int) (r4 : ByteArray) (r5 : ByteArray) (r6 : Bool) (w : World) (h : dW.f a0 = some (r1,r2,r3,r4,r5,r6)) (hk : a0 = 30 ∨ a0 = 31 ∨ a0 = 32 ∨ a0 = 33 ∨ a0 = 34 ∨ a0 = 35 ∨ a0 = 36 ∨ a0 = 37 ∨ a0 = 38 ∨ a0 = 39) :
  Calls Tryz.prog 107 #[.int .i64 a0] w fun e w' => e = .returned (.tuple #[.agg #[.string r1,.int .i64 r2,.int .i64 r3,.string r4,.string r5],.bool r6]) ∧ Below w.heap.size w w':=by
 rcases hk with rfl | rfl | rfl | rfl | rfl | rfl | rfl | rfl | rfl | rfl
 all_goals
  rw [show dW.f _ = some (_,_,_,_,_,_) from rfl] at h
  simp only [Option.some.injEq,Prod.mk.injEq] at h
  obtain ⟨rfl,rfl,rfl,rfl,rfl,rfl⟩:=h
  have M:=ah.mk (Mem.start [3] w)
  go_enter Tryz.func107,Tryz.ntmps107
  go_wp2_with (first
   | (refine eB M 2 #[.string (⟨#[]⟩ : ByteArray),.int .i64 0,.int .i64 0,.string (⟨#[]⟩ : ByteArray),.string (⟨#[]⟩ : ByteArray)] 133 ?_; clear M; intro g w1 M1)
   | (refine eR M1 133 2 0 _ ?_; clear M1; intro w2 M2))
  exact bodyPost_ret (dw rfl _ _ g 133 _ (0,0) _ rfl (M2.out.at 0 rfl) Tryz.underlying133 rfl (by kernel_rfl)) rfl ⟨rfl,M2.out.below⟩
theorem EX (a0 : Int) (r1 : ByteArray) (r2 : Int) (r3 : Int) (r4 : ByteArray) (r5 : ByteArray) (r6 : Bool) (w : World) (h : dW.f a0 = some (r1,r2,r3,r4,r5,r6)) (hk : a0 = 40 ∨ a0 = 41 ∨ a0 = 42 ∨ a0 = 43 ∨ a0 = 44 ∨ a0 = 45 ∨ a0 = 46 ∨ a0 = 47 ∨ a0 = 48 ∨ a0 = 49) :
  Calls Tryz.prog 107 #[.int .i64 a0] w fun e w' => e = .returned (.tuple #[.agg #[.string r1,.int .i64 r2,.int .i64 r3,.string r4,.string r5],.bool r6]) ∧ Below w.heap.size w w':=by
 rcases hk with rfl | rfl | rfl | rfl | rfl | rfl | rfl | rfl | rfl | rfl
 all_goals
  rw [show dW.f _ = some (_,_,_,_,_,_) from rfl] at h
  simp only [Option.some.injEq,Prod.mk.injEq] at h
  obtain ⟨rfl,rfl,rfl,rfl,rfl,rfl⟩:=h
  have M:=ah.mk (Mem.start [3] w)
  go_enter Tryz.func107,Tryz.ntmps107
  go_wp2_with (first
   | (refine eB M 2 #[.string (⟨#[]⟩ : ByteArray),.int .i64 0,.int .i64 0,.string (⟨#[]⟩ : ByteArray),.string (⟨#[]⟩ : ByteArray)] 133 ?_; clear M; intro g w1 M1)
   | (refine eR M1 133 2 0 _ ?_; clear M1; intro w2 M2))
  exact bodyPost_ret (dw rfl _ _ g 133 _ (0,0) _ rfl (M2.out.at 0 rfl) Tryz.underlying133 rfl (by kernel_rfl)) rfl ⟨rfl,M2.out.below⟩
theorem EY (a0 : Int) (r1 : ByteArray) (r2 : Int) (r3 : Int) (r4 : ByteArray) (r5 : ByteArray) (r6 : Bool) (w : World) (h : dW.f a0 = some (r1,r2,r3,r4,r5,r6)) (hk : a0 = 50 ∨ a0 = 51 ∨ a0 = 52 ∨ a0 = 53 ∨ a0 = 54 ∨ a0 = 55 ∨ a0 = 56 ∨ a0 = 57 ∨ a0 = 58) :
  Calls Tryz.prog 107 #[.int .i64 a0] w fun e w' => e = .returned (.tuple #[.agg #[.string r1,.int .i64 r2,.int .i64 r3,.string r4,.string r5],.bool r6]) ∧ Below w.heap.size w w':=by
 rcases hk with rfl | rfl | rfl | rfl | rfl | rfl | rfl | rfl | rfl
 all_goals
  rw [show dW.f _ = some (_,_,_,_,_,_) from rfl] at h
  simp only [Option.some.injEq,Prod.mk.injEq] at h
  obtain ⟨rfl,rfl,rfl,rfl,rfl,rfl⟩:=h
  have M:=ah.mk (Mem.start [3] w)
  go_enter Tryz.func107,Tryz.ntmps107
  go_wp2_with (first
   | (refine eB M 2 #[.string (⟨#[]⟩ : ByteArray),.int .i64 0,.int .i64 0,.string (⟨#[]⟩ : ByteArray),.string (⟨#[]⟩ : ByteArray)] 133 ?_; clear M; intro g w1 M1)
   | (refine eR M1 133 2 0 _ ?_; clear M1; intro w2 M2))
  exact bodyPost_ret (dw rfl _ _ g 133 _ (0,0) _ rfl (M2.out.at 0 rfl) Tryz.underlying133 rfl (by kernel_rfl)) rfl ⟨rfl,M2.out.below⟩
theorem Ci (a0 : Int) (r1 : ByteArray) (r2 : Int) (r3 : Int) (r4 : ByteArray) (r5 : ByteArray) (r6 : Bool) (w : World) (h : dW.f a0 = some (r1,r2,r3,r4,r5,r6)) (hk : a0 < 30 ∨ 58 < a0) :
  Calls Tryz.prog 107 #[.int .i64 a0] w fun e w' => e = .returned (.tuple #[.agg #[.string r1,.int .i64 r2,.int .i64 r3,.string r4,.string r5],.bool r6]) ∧ Below w.heap.size w w':=by
 unfold dW.f at h
 rw [if_neg (show ¬ a0 = 30 by omega)] at h
 rw [if_neg (show ¬ a0 = 31 by omega)] at h
 rw [if_neg (show ¬ a0 = 32 by omega)] at h
 rw [if_neg (show ¬ a0 = 33 by omega)] at h
 rw [if_neg (show ¬ a0 = 34 by omega)] at h
 rw [if_neg (show ¬ a0 = 35 by omega)] at h
 rw [if_neg (show ¬ a0 = 36 by omega)] at h
 rw [if_neg (show ¬ a0 = 37 by omega)] at h
 rw [if_neg (show ¬ a0 = 38 by omega)] at h
 rw [if_neg (show ¬ a0 = 39 by omega)] at h
 rw [if_neg (show ¬ a0 = 40 by omega)] at h
 rw [if_neg (show ¬ a0 = 41 by omega)] at h
 rw [if_neg (show ¬ a0 = 42 by omega)] at h
 rw [if_neg (show ¬ a0 = 43 by omega)] at h
 rw [if_neg (show ¬ a0 = 44 by omega)] at h
 rw [if_neg (show ¬ a0 = 45 by omega)] at h
 rw [if_neg (show ¬ a0 = 46 by omega)] at h
 rw [if_neg (show ¬ a0 = 47 by omega)] at h
 rw [if_neg (show ¬ a0 = 48 by omega)] at h
 rw [if_neg (show ¬ a0 = 49 by omega)] at h
 rw [if_neg (show ¬ a0 = 50 by omega)] at h
 rw [if_neg (show ¬ a0 = 51 by omega)] at h
 rw [if_neg (show ¬ a0 = 52 by omega)] at h
 rw [if_neg (show ¬ a0 = 53 by omega)] at h
 rw [if_neg (show ¬ a0 = 54 by omega)] at h
 rw [if_neg (show ¬ a0 = 55 by omega)] at h
 rw [if_neg (show ¬ a0 = 56 by omega)] at h
 rw [if_neg (show ¬ a0 = 57 by omega)] at h
 rw [if_neg (show ¬ a0 = 58 by omega)] at h
 have c30:=beq_eq_false_iff_ne.mpr (show a0 ≠ 30 by omega)
 have c31:=beq_eq_false_iff_ne.mpr (show a0 ≠ 31 by omega)
 have c32:=beq_eq_false_iff_ne.mpr (show a0 ≠ 32 by omega)
 have YJ:=beq_eq_false_iff_ne.mpr (show a0 ≠ 33 by omega)
 have c34:=beq_eq_false_iff_ne.mpr (show a0 ≠ 34 by omega)
 have OC:=beq_eq_false_iff_ne.mpr (show a0 ≠ 35 by omega)
 have c36:=beq_eq_false_iff_ne.mpr (show a0 ≠ 36 by omega)
 have c37:=beq_eq_false_iff_ne.mpr (show a0 ≠ 37 by omega)
 have c38:=beq_eq_false_iff_ne.mpr (show a0 ≠ 38 by omega)
 have c39:=beq_eq_false_iff_ne.mpr (show a0 ≠ 39 by omega)
 have c40:=beq_eq_false_iff_ne.mpr (show a0 ≠ 40 by omega)
 have QD:=beq_eq_false_iff_ne.mpr (show a0 ≠ 41 by omega)
 have YK:=beq_eq_false_iff_ne.mpr (show a0 ≠ 42 by omega)
 have YL:=beq_eq_false_iff_ne.mpr (show a0 ≠ 43 by omega)
 have c44:=beq_eq_false_iff_ne.mpr (show a0 ≠ 44 by omega)
 have c45:=beq_eq_false_iff_ne.mpr (show a0 ≠ 45 by omega)
 have c46:=beq_eq_false_iff_ne.mpr (show a0 ≠ 46 by omega)
 have c47:=beq_eq_false_iff_ne.mpr (show a0 ≠ 47 by omega)
 have YM:=beq_eq_false_iff_ne.mpr (show a0 ≠ 48 by omega)
 have c49:=beq_eq_false_iff_ne.mpr (show a0 ≠ 49 by omega)
 have c50:=beq_eq_false_iff_ne.mpr (show a0 ≠ 50 by omega)
 have c51:=beq_eq_false_iff_ne.mpr (show a0 ≠ 51 by omega)
 have c52:=beq_eq_false_iff_ne.mpr (show a0 ≠ 52 by omega)
 have c53:=beq_eq_false_iff_ne.mpr (show a0 ≠ 53 by omega)
 have c54:=beq_eq_false_iff_ne.mpr (show a0 ≠ 54 by omega)
 have c55:=beq_eq_false_iff_ne.mpr (show a0 ≠ 55 by omega)
 have c56:=beq_eq_false_iff_ne.mpr (show a0 ≠ 56 by omega)
 have c57:=beq_eq_false_iff_ne.mpr (show a0 ≠ 57 by omega)
 have c58:=beq_eq_false_iff_ne.mpr (show a0 ≠ 58 by omega)
 clear hk
 simp only [Option.some.injEq,Prod.mk.injEq] at h
 obtain ⟨rfl,rfl,rfl,rfl,rfl,rfl⟩:=h
 have M:=ah.mk (Mem.start [3] w)
 go_enter Tryz.func107,Tryz.ntmps107
 go_wp2_with (first
  | (refine eB M 2 #[.string (⟨#[]⟩ : ByteArray),.int .i64 0,.int .i64 0,.string (⟨#[]⟩ : ByteArray),.string (⟨#[]⟩ : ByteArray)] 133 ?_; clear M; intro g w1 M1)
  | (refine eR M1 133 2 0 _ ?_; clear M1; intro w2 M2))
 exact bodyPost_ret (dw rfl _ _ g 133 _ (0,0) _ rfl (M2.out.at 0 rfl) Tryz.underlying133 rfl (by kernel_rfl)) rfl ⟨rfl,M2.out.below⟩
theorem dW.calls (a0 : Int) (r1 : ByteArray) (r2 : Int) (r3 : Int) (r4 : ByteArray) (r5 : ByteArray) (r6 : Bool) (w : World) (h : dW.f a0 = some (r1,r2,r3,r4,r5,r6)) :
  Calls Tryz.prog 107 #[.int .i64 a0] w fun e w' => e = .returned (.tuple #[.agg #[.string r1,.int .i64 r2,.int .i64 r3,.string r4,.string r5],.bool r6]) ∧ Below w.heap.size w w':=by
 by_cases hk : a0 < 30 ∨ 58 < a0
 ·exact Ci a0 r1 r2 r3 r4 r5 r6 w h hk
 by_cases hka : a0 < 40
 ·exact EW a0 r1 r2 r3 r4 r5 r6 w h (by omega)
 by_cases hkb : a0 < 50
 ·exact EX a0 r1 r2 r3 r4 r5 r6 w h (by omega)
 exact EY a0 r1 r2 r3 r4 r5 r6 w h (by omega)
end Go.Proofs.YtdbpglhdicmhhaaGreatDoor.GA
end
