import Derived.Test.YtdbpglhdicmhhaaGreatDoorMPr4
import Derived.Test.YtdbpglhdicmhhaaGreatDoorMPr35
import Derived.Test.YtdbpglhdicmhhaaGreatDoorMPr16
set_option maxHeartbeats 8000000
set_option maxRecDepth 100000
set_option linter.unusedVariables false
set_option linter.unusedSimpArgs false
section
namespace Go.Proofs.YtdbpglhdicmhhaaGreatDoor.GA
open Go.RowKit Go.Proofs.YtdbpglhdicmhhaaGreatDoorW.aI Go.Proofs.YtdbpglhdicmhhaaGreatDoorW.aX Go.Proofs.YtdbpglhdicmhhaaGreatDoorW.aZ
def dJ.f (a0 : Int) : Option (Int × Int × Int × Int × Int × Int):=Qs.YN a0
theorem dJ.calls (a0 : Int) (r1 : Int) (r2 : Int) (r3 : Int) (r4 : Int) (r5 : Int) (r6 : Int) (w : World) (h : dJ.f a0 = some (r1,r2,r3,r4,r5,r6)) :
  Calls Tryz.prog 40 #[.int .u32 a0] w fun e w' => e = .returned (.tuple #[.agg #[.int .i64 r1,.int .i64 r2,.int .i64 r3,.int .i64 r4,.int .i64 r5],.int .i64 r6]) ∧ Below w.heap.size w w':=by
 exact Qs.Le a0 _ _ _ _ _ _ w h
end Go.Proofs.YtdbpglhdicmhhaaGreatDoor.GA
end

section
namespace Go.Proofs.YtdbpglhdicmhhaaGreatDoor.GA
open Go.RowKit Go.Proofs.YtdbpglhdicmhhaaGreatDoorW.aI Go.Proofs.YtdbpglhdicmhhaaGreatDoorW.aX Go.Proofs.YtdbpglhdicmhhaaGreatDoorW.aZ
def jm.f (a0 : Int) : Option (ByteArray × Int):=(aT.f a0).bind fun Oz => (if Oz.2.2.2.2.2 = true then (some (Oz.1,0)) else (some ((⟨#[]⟩ : ByteArray),60)))
theorem jm.calls (a0 : Int) (r1 : ByteArray) (r2 : Int) (w : World) (h : jm.f a0 = some (r1,r2)) :
  Calls Tryz.prog 41 #[.int .i64 a0] w fun e w' => e = .returned (.tuple #[.string r1,.int .i64 r2]) ∧ Below w.heap.size w w':=by
 have uh:=Tryz.underlying133
 have HB:=ah.mk (Below.refl w.heap.size w)
 have H : ((aT.f a0).bind fun Oz => (if Oz.2.2.2.2.2 = true then (some (Oz.1,0)) else (some ((⟨#[]⟩ : ByteArray),60)))) = some (r1,r2):=h
 clear h
 replace H:=Option.bind_eq_some_iff.mp H
 obtain ⟨⟨aac,afF,afG,afH,afI,afJ⟩,RP,H⟩:=H
 replace H : (if afJ = true then (some (aac,0)) else (some ((⟨#[]⟩ : ByteArray),60))) = some (r1,r2):=H
 have A2:=ah.mk RP
 clear RP
 by_cases c3 : afJ = true
 ·subst c3
  have H1 : (some (aac,0)) = some (r1,r2):=by rw [if_pos rfl] at H; exact H
  clear H
  have H:=H1
  clear H1
  simp only [Option.some.injEq,Prod.mk.injEq] at H
  obtain ⟨rfl,rfl⟩:=H
  go_enter Tryz.func41,Tryz.ntmps41
  go_wp2_with (first | ((with_reducible refine dn (f:=83) rfl ?_); refine goesL_ (some 8) rfl rfl Tryz.func83 (by kernel_rfl) rfl #[.int .i64 a0] rfl (by (try simp only [List.map_toArray,List.map_cons,List.map_nil]); first | done | rfl | (simp only [List.length_drop,List.length_take]; rfl)) ?_; (with_reducible refine (aT.calls a0 aac afF afG afH afI true _ A2.out).mono ?_); rintro e w4 ⟨rfl,hb⟩; refine ⟨_,rfl,?_⟩; have n0_:=ah.mk (bP (by repeat (first | (with_reducible first | exact HB.out | apply ak | apply aj | apply ay) | exact HB.out)) hb); clear HB; have HB:=n0_; clear n0_; (try clear hb); (try clear hb2); (try clear hk); (try clear hi)) | ((with_reducible refine bI (N:=4) rfl ?_); refine dV ?hg (N:=4) ?hd (cs:=#[.string (⟨#[]⟩ : ByteArray),.int .i64 0,.int .i64 0,.string (⟨#[]⟩ : ByteArray),.string (⟨#[]⟩ : ByteArray)]) (t:=133) ?hr ?_; (case hd => rfl); (case hg => rfl); (case hr => first | (go_simp; done) | (go_simp; rfl)); intro xK hg w5 hbox hb; have n0_:=ah.mk (bP (by repeat (first | (with_reducible first | exact HB.out | apply ak | apply aj | apply ay) | exact HB.out)) hb); have n1_:=ah.mk (hbox); have n2_:=ah.mk ((by rw [hg]; exact (bV (by repeat (first | (with_reducible first | exact HB.out | apply ak | apply aj | apply ay) | exact HB.out))) : w.heap.size ≤ xK)); have n3_:=ah.mk ((by rw [hg]; exact (bV (by repeat (first | (with_reducible first | exact HB.out | apply ak | apply aj | apply ay) | exact HB.out))) : w.heap.size ≤ xK)); clear HB; have HB:=n0_; have sU:=n1_; have aeb:=n2_; have Vs:=n3_; clear n0_ n1_ n2_ n3_; clear hb hbox hg; have Ah : w5.cell? ⟨xK,0,none⟩ = some (.string (⟨#[]⟩ : ByteArray)):=(aA sU.out 0).trans rfl; have Aj : w5.cell? ⟨xK,1,none⟩ = some (.int .i64 0):=(aA sU.out 1).trans rfl; have Ak : w5.cell? ⟨xK,2,none⟩ = some (.int .i64 0):=(aA sU.out 2).trans rfl; have acu : w5.cell? ⟨xK,3,none⟩ = some (.string (⟨#[]⟩ : ByteArray)):=(aA sU.out 3).trans rfl; have acv : w5.cell? ⟨xK,4,none⟩ = some (.string (⟨#[]⟩ : ByteArray)):=(aA sU.out 4).trans rfl; have Am:=au sU.out 0; have Ap:=au sU.out 1; have Aq:=au sU.out 2; have acI:=au sU.out 3; have acJ:=au sU.out 4))
  go_ret2
  exact ⟨by first | rfl | (simp [bZ,cO] <;> rfl) | (simp [*,bZ,cO] <;> rfl),by repeat (first | (with_reducible first | exact HB.out | apply ak | apply aj | apply ay | refine aN ?_ Vs.out) | exact HB.out)⟩
 ·replace c3:=Bool.eq_false_iff.mpr c3
  subst c3
  have H1 : (some ((⟨#[]⟩ : ByteArray),60)) = some (r1,r2):=by rw [if_neg (show ¬ (false = true) by decide)] at H; exact H
  clear H
  have H:=H1
  clear H1
  simp only [Option.some.injEq,Prod.mk.injEq] at H
  obtain ⟨rfl,rfl⟩:=H
  go_enter Tryz.func41,Tryz.ntmps41
  go_wp2_with (first | ((with_reducible refine dn (f:=83) rfl ?_); refine goesL_ (some 8) rfl rfl Tryz.func83 (by kernel_rfl) rfl #[.int .i64 a0] rfl (by (try simp only [List.map_toArray,List.map_cons,List.map_nil]); first | done | rfl | (simp only [List.length_drop,List.length_take]; rfl)) ?_; (with_reducible refine (aT.calls a0 aac afF afG afH afI false _ A2.out).mono ?_); rintro e w7 ⟨rfl,hb⟩; refine ⟨_,rfl,?_⟩; have n0_:=ah.mk (bP (by repeat (first | (with_reducible first | exact HB.out | apply ak | apply aj | apply ay) | exact HB.out)) hb); clear HB; have HB:=n0_; clear n0_; (try clear hb); (try clear hb2); (try clear hk); (try clear hi)) | ((with_reducible refine bI (N:=4) rfl ?_); refine dV ?hg (N:=4) ?hd (cs:=#[.string (⟨#[]⟩ : ByteArray),.int .i64 0,.int .i64 0,.string (⟨#[]⟩ : ByteArray),.string (⟨#[]⟩ : ByteArray)]) (t:=133) ?hr ?_; (case hd => rfl); (case hg => rfl); (case hr => first | (go_simp; done) | (go_simp; rfl)); intro xK hg w8 hbox hb; have n0_:=ah.mk (bP (by repeat (first | (with_reducible first | exact HB.out | apply ak | apply aj | apply ay) | exact HB.out)) hb); have n1_:=ah.mk (hbox); have n2_:=ah.mk ((by rw [hg]; exact (bV (by repeat (first | (with_reducible first | exact HB.out | apply ak | apply aj | apply ay) | exact HB.out))) : w.heap.size ≤ xK)); have n3_:=ah.mk ((by rw [hg]; exact (bV (by repeat (first | (with_reducible first | exact HB.out | apply ak | apply aj | apply ay) | exact HB.out))) : w.heap.size ≤ xK)); clear HB; have HB:=n0_; have sU:=n1_; have aeb:=n2_; have Vs:=n3_; clear n0_ n1_ n2_ n3_; clear hb hbox hg; have WB : w8.cell? ⟨xK,0,none⟩ = some (.string (⟨#[]⟩ : ByteArray)):=(aA sU.out 0).trans rfl; have WC : w8.cell? ⟨xK,1,none⟩ = some (.int .i64 0):=(aA sU.out 1).trans rfl; have WE : w8.cell? ⟨xK,2,none⟩ = some (.int .i64 0):=(aA sU.out 2).trans rfl; have acw : w8.cell? ⟨xK,3,none⟩ = some (.string (⟨#[]⟩ : ByteArray)):=(aA sU.out 3).trans rfl; have acy : w8.cell? ⟨xK,4,none⟩ = some (.string (⟨#[]⟩ : ByteArray)):=(aA sU.out 4).trans rfl; have WL:=au sU.out 0; have WM:=au sU.out 1; have WO:=au sU.out 2; have acK:=au sU.out 3; have acL:=au sU.out 4))
  go_ret2
  exact ⟨by first | rfl | (simp [bZ,cO] <;> rfl) | (simp [*,bZ,cO] <;> rfl),by repeat (first | (with_reducible first | exact HB.out | apply ak | apply aj | apply ay | refine aN ?_ Vs.out) | exact HB.out)⟩
end Go.Proofs.YtdbpglhdicmhhaaGreatDoor.GA
end
