import Derived.Test.YtdbpglhdicmhhaaGreatDoorMPr15
import Derived.WalkKit
import Derived.Test.YtdbpglhdicmhhaaGreatDoorMPr4
set_option maxHeartbeats 8000000
set_option maxRecDepth 100000
set_option linter.unusedVariables false
set_option linter.unusedSimpArgs false
section
namespace Go.Proofs.YtdbpglhdicmhhaaGreatDoor.GA
open Go.RowKit Go.Proofs.YtdbpglhdicmhhaaGreatDoorW.aI Go.Proofs.YtdbpglhdicmhhaaGreatDoorW.aX Go.Proofs.YtdbpglhdicmhhaaGreatDoorW.aZ iM
def aT.f (a0 : Int) : Option (ByteArray × Int × Int × ByteArray × ByteArray × Bool):=if a0 = 1 then (some ((⟨#[110,111,112]⟩ : ByteArray),0,1,(⟨#[]⟩ : ByteArray),(⟨#[]⟩ : ByteArray),true)) else (if a0 = 2 then (some ((⟨#[115,101,116]⟩ : ByteArray),6,1,(⟨#[]⟩ : ByteArray),(⟨#[97]⟩ : ByteArray),true)) else (if a0 = 3 then (some ((⟨#[104,105,103,104]⟩ : ByteArray),5,1,(⟨#[97]⟩ : ByteArray),(⟨#[97]⟩ : ByteArray),true)) else (if a0 = 4 then (some ((⟨#[109,111,118,101]⟩ : ByteArray),2,1,(⟨#[98]⟩ : ByteArray),(⟨#[97]⟩ : ByteArray),true)) else (if a0 = 5 then (some ((⟨#[97,100,100]⟩ : ByteArray),3,1,(⟨#[98,99]⟩ : ByteArray),(⟨#[97]⟩ : ByteArray),true)) else (if a0 = 6 then (some ((⟨#[115,117,98]⟩ : ByteArray),3,1,(⟨#[98,99]⟩ : ByteArray),(⟨#[97]⟩ : ByteArray),true)) else (if a0 = 7 then (some ((⟨#[109,117,108]⟩ : ByteArray),3,3,(⟨#[98,99]⟩ : ByteArray),(⟨#[97]⟩ : ByteArray),true)) else (if a0 = 8 then (some ((⟨#[100,105,118]⟩ : ByteArray),3,8,(⟨#[98,99]⟩ : ByteArray),(⟨#[97]⟩ : ByteArray),true)) else (if a0 = 9 then (some ((⟨#[114,101,109]⟩ : ByteArray),3,8,(⟨#[98,99]⟩ : ByteArray),(⟨#[97]⟩ : ByteArray),true)) else (if a0 = 10 then (some ((⟨#[97,110,100]⟩ : ByteArray),3,1,(⟨#[98,99]⟩ : ByteArray),(⟨#[97]⟩ : ByteArray),true)) else (if a0 = 11 then (some ((⟨#[111,114]⟩ : ByteArray),3,1,(⟨#[98,99]⟩ : ByteArray),(⟨#[97]⟩ : ByteArray),true)) else (if a0 = 12 then (some ((⟨#[120,111,114]⟩ : ByteArray),3,1,(⟨#[98,99]⟩ : ByteArray),(⟨#[97]⟩ : ByteArray),true)) else (if a0 = 13 then (some ((⟨#[115,104,108]⟩ : ByteArray),3,1,(⟨#[98,99]⟩ : ByteArray),(⟨#[97]⟩ : ByteArray),true)) else (if a0 = 14 then (some ((⟨#[115,104,114]⟩ : ByteArray),3,1,(⟨#[98,99]⟩ : ByteArray),(⟨#[97]⟩ : ByteArray),true)) else (if a0 = 15 then (some ((⟨#[108,101,115,115]⟩ : ByteArray),3,1,(⟨#[98,99]⟩ : ByteArray),(⟨#[97]⟩ : ByteArray),true)) else (if a0 = 16 then (some ((⟨#[101,113,117,97,108]⟩ : ByteArray),3,1,(⟨#[98,99]⟩ : ByteArray),(⟨#[97]⟩ : ByteArray),true)) else (if a0 = 17 then (some ((⟨#[106,117,109,112]⟩ : ByteArray),4,1,(⟨#[]⟩ : ByteArray),(⟨#[]⟩ : ByteArray),true)) else (if a0 = 18 then (some ((⟨#[122,101,114,111]⟩ : ByteArray),5,1,(⟨#[97]⟩ : ByteArray),(⟨#[]⟩ : ByteArray),true)) else (if a0 = 19 then (some ((⟨#[115,111,109,101]⟩ : ByteArray),5,1,(⟨#[97]⟩ : ByteArray),(⟨#[]⟩ : ByteArray),true)) else (if a0 = 20 then (some ((⟨#[99,97,108,108]⟩ : ByteArray),4,2,(⟨#[]⟩ : ByteArray),(⟨#[]⟩ : ByteArray),true)) else (if a0 = 21 then (some ((⟨#[114,101,116]⟩ : ByteArray),0,2,(⟨#[]⟩ : ByteArray),(⟨#[]⟩ : ByteArray),true)) else (if a0 = 22 then (some ((⟨#[115,112,97,119,110]⟩ : ByteArray),5,4,(⟨#[42]⟩ : ByteArray),(⟨#[97]⟩ : ByteArray),true)) else (if a0 = 23 then (some ((⟨#[121,105,101,108,100]⟩ : ByteArray),0,1,(⟨#[]⟩ : ByteArray),(⟨#[]⟩ : ByteArray),true)) else (if a0 = 24 then (some ((⟨#[101,120,105,116]⟩ : ByteArray),0,1,(⟨#[]⟩ : ByteArray),(⟨#[]⟩ : ByteArray),true)) else (if a0 = 25 then (some ((⟨#[115,101,108,102]⟩ : ByteArray),1,1,(⟨#[]⟩ : ByteArray),(⟨#[97]⟩ : ByteArray),true)) else (if a0 = 26 then (some ((⟨#[110,111,119]⟩ : ByteArray),1,1,(⟨#[]⟩ : ByteArray),(⟨#[97]⟩ : ByteArray),true)) else (if a0 = 27 then (some ((⟨#[115,108,101,101,112]⟩ : ByteArray),1,1,(⟨#[97]⟩ : ByteArray),(⟨#[]⟩ : ByteArray),true)) else (if a0 = 28 then (some ((⟨#[109,97,107,101]⟩ : ByteArray),2,4,(⟨#[98]⟩ : ByteArray),(⟨#[97]⟩ : ByteArray),true)) else (if a0 = 29 then (some ((⟨#[115,101,110,100]⟩ : ByteArray),2,2,(⟨#[97,98]⟩ : ByteArray),(⟨#[]⟩ : ByteArray),true)) else ((dW.f a0).bind fun J7 => (some (J7.1,J7.2.1,J7.2.2.1,J7.2.2.2.1,J7.2.2.2.2.1,J7.2.2.2.2.2)))))))))))))))))))))))))))))))
theorem EZ (a0 : Int) (r1 : ByteArray) (r2 : Int) (r3 : Int) (r4 : ByteArray) (r5 : ByteArray) (r6 : Bool) (w : World) (h : aT.f a0 = some (r1,r2,r3,r4,r5,r6)) (hk : a0 = 1 ∨ a0 = 2 ∨ a0 = 3 ∨ a0 = 4 ∨ a0 = 5 ∨ a0 = 6 ∨ a0 = 7 ∨ a0 = 8 ∨ a0 = 9 ∨ a0 = 10) :
  Calls Tryz.prog 83 #[.int .i64 a0] w fun e w' => e = .returned (.tuple #[.agg #[.string r1,.int .i64 r2,.int .i64 r3,.string r4,.string r5],.bool r6]) ∧ Below w.heap.size w w':=by
 rcases hk with rfl | rfl | rfl | rfl | rfl | rfl | rfl | rfl | rfl | rfl
 all_goals
  rw [show aT.f _ = some (_,_,_,_,_,_) from rfl] at h
  simp only [Option.some.injEq,Prod.mk.injEq] at h
  obtain ⟨rfl,rfl,rfl,rfl,rfl,rfl⟩:=h
  have M:=ah.mk (Mem.start [3] w)
  go_enter Tryz.func83,Tryz.ntmps83
  go_wp2_with (first
   | (refine eB M 2 #[.string (⟨#[]⟩ : ByteArray),.int .i64 0,.int .i64 0,.string (⟨#[]⟩ : ByteArray),.string (⟨#[]⟩ : ByteArray)] 133 ?_; clear M; intro g w1 M1)
   | (refine eR M1 133 2 0 _ ?_; clear M1; intro w2 M2))
  exact bodyPost_ret (dw rfl _ _ g 133 _ (0,0) _ rfl (M2.out.at 0 rfl) Tryz.underlying133 rfl (by kernel_rfl)) rfl ⟨rfl,M2.out.below⟩
theorem E5 (a0 : Int) (r1 : ByteArray) (r2 : Int) (r3 : Int) (r4 : ByteArray) (r5 : ByteArray) (r6 : Bool) (w : World) (h : aT.f a0 = some (r1,r2,r3,r4,r5,r6)) (hk : a0 = 11 ∨ a0 = 12 ∨ a0 = 13 ∨ a0 = 14 ∨ a0 = 15 ∨ a0 = 16 ∨ a0 = 17 ∨ a0 = 18 ∨ a0 = 19 ∨ a0 = 20) :
  Calls Tryz.prog 83 #[.int .i64 a0] w fun e w' => e = .returned (.tuple #[.agg #[.string r1,.int .i64 r2,.int .i64 r3,.string r4,.string r5],.bool r6]) ∧ Below w.heap.size w w':=by
 rcases hk with rfl | rfl | rfl | rfl | rfl | rfl | rfl | rfl | rfl | rfl
 all_goals
  rw [show aT.f _ = some (_,_,_,_,_,_) from rfl] at h
  simp only [Option.some.injEq,Prod.mk.injEq] at h
  obtain ⟨rfl,rfl,rfl,rfl,rfl,rfl⟩:=h
  have M:=ah.mk (Mem.start [3] w)
  go_enter Tryz.func83,Tryz.ntmps83
  go_wp2_with (first
   | (refine eB M 2 #[.string (⟨#[]⟩ : ByteArray),.int .i64 0,.int .i64 0,.string (⟨#[]⟩ : ByteArray),.string (⟨#[]⟩ : ByteArray)] 133 ?_; clear M; intro g w1 M1)
   | (refine eR M1 133 2 0 _ ?_; clear M1; intro w2 M2))
  exact bodyPost_ret (dw rfl _ _ g 133 _ (0,0) _ rfl (M2.out.at 0 rfl) Tryz.underlying133 rfl (by kernel_rfl)) rfl ⟨rfl,M2.out.below⟩
theorem E8 (a0 : Int) (r1 : ByteArray) (r2 : Int) (r3 : Int) (r4 : ByteArray) (r5 : ByteArray) (r6 : Bool) (w : World) (h : aT.f a0 = some (r1,r2,r3,r4,r5,r6)) (hk : a0 = 21 ∨ a0 = 22 ∨ a0 = 23 ∨ a0 = 24 ∨ a0 = 25 ∨ a0 = 26 ∨ a0 = 27 ∨ a0 = 28 ∨ a0 = 29) :
  Calls Tryz.prog 83 #[.int .i64 a0] w fun e w' => e = .returned (.tuple #[.agg #[.string r1,.int .i64 r2,.int .i64 r3,.string r4,.string r5],.bool r6]) ∧ Below w.heap.size w w':=by
 rcases hk with rfl | rfl | rfl | rfl | rfl | rfl | rfl | rfl | rfl
 all_goals
  rw [show aT.f _ = some (_,_,_,_,_,_) from rfl] at h
  simp only [Option.some.injEq,Prod.mk.injEq] at h
  obtain ⟨rfl,rfl,rfl,rfl,rfl,rfl⟩:=h
  have M:=ah.mk (Mem.start [3] w)
  go_enter Tryz.func83,Tryz.ntmps83
  go_wp2_with (first
   | (refine eB M 2 #[.string (⟨#[]⟩ : ByteArray),.int .i64 0,.int .i64 0,.string (⟨#[]⟩ : ByteArray),.string (⟨#[]⟩ : ByteArray)] 133 ?_; clear M; intro g w1 M1)
   | (refine eR M1 133 2 0 _ ?_; clear M1; intro w2 M2))
  exact bodyPost_ret (dw rfl _ _ g 133 _ (0,0) _ rfl (M2.out.at 0 rfl) Tryz.underlying133 rfl (by kernel_rfl)) rfl ⟨rfl,M2.out.below⟩
theorem Cj (a0 : Int) (r1 : ByteArray) (r2 : Int) (r3 : Int) (r4 : ByteArray) (r5 : ByteArray) (r6 : Bool) (w : World) (h : aT.f a0 = some (r1,r2,r3,r4,r5,r6)) (hk : a0 < 1 ∨ 29 < a0) :
  Calls Tryz.prog 83 #[.int .i64 a0] w fun e w' => e = .returned (.tuple #[.agg #[.string r1,.int .i64 r2,.int .i64 r3,.string r4,.string r5],.bool r6]) ∧ Below w.heap.size w w':=by
 unfold aT.f at h
 rw [if_neg (show ¬ a0 = 1 by omega)] at h
 rw [if_neg (show ¬ a0 = 2 by omega)] at h
 rw [if_neg (show ¬ a0 = 3 by omega)] at h
 rw [if_neg (show ¬ a0 = 4 by omega)] at h
 rw [if_neg (show ¬ a0 = 5 by omega)] at h
 rw [if_neg (show ¬ a0 = 6 by omega)] at h
 rw [if_neg (show ¬ a0 = 7 by omega)] at h
 rw [if_neg (show ¬ a0 = 8 by omega)] at h
 rw [if_neg (show ¬ a0 = 9 by omega)] at h
 rw [if_neg (show ¬ a0 = 10 by omega)] at h
 rw [if_neg (show ¬ a0 = 11 by omega)] at h
 rw [if_neg (show ¬ a0 = 12 by omega)] at h
 rw [if_neg (show ¬ a0 = 13 by omega)] at h
 rw [if_neg (show ¬ a0 = 14 by omega)] at h
 rw [if_neg (show ¬ a0 = 15 by omega)] at h
 rw [if_neg (show ¬ a0 = 16 by omega)] at h
 rw [if_neg (show ¬ a0 = 17 by omega)] at h
 rw [if_neg (show ¬ a0 = 18 by omega)] at h
 rw [if_neg (show ¬ a0 = 19 by omega)] at h
 rw [if_neg (show ¬ a0 = 20 by omega)] at h
 rw [if_neg (show ¬ a0 = 21 by omega)] at h
 rw [if_neg (show ¬ a0 = 22 by omega)] at h
 rw [if_neg (show ¬ a0 = 23 by omega)] at h
 rw [if_neg (show ¬ a0 = 24 by omega)] at h
 rw [if_neg (show ¬ a0 = 25 by omega)] at h
 rw [if_neg (show ¬ a0 = 26 by omega)] at h
 rw [if_neg (show ¬ a0 = 27 by omega)] at h
 rw [if_neg (show ¬ a0 = 28 by omega)] at h
 rw [if_neg (show ¬ a0 = 29 by omega)] at h
 have c1:=beq_eq_false_iff_ne.mpr (show a0 ≠ 1 by omega)
 have c2:=beq_eq_false_iff_ne.mpr (show a0 ≠ 2 by omega)
 have c3:=beq_eq_false_iff_ne.mpr (show a0 ≠ 3 by omega)
 have c4:=beq_eq_false_iff_ne.mpr (show a0 ≠ 4 by omega)
 have c5:=beq_eq_false_iff_ne.mpr (show a0 ≠ 5 by omega)
 have c6:=beq_eq_false_iff_ne.mpr (show a0 ≠ 6 by omega)
 have c7:=beq_eq_false_iff_ne.mpr (show a0 ≠ 7 by omega)
 have c8:=beq_eq_false_iff_ne.mpr (show a0 ≠ 8 by omega)
 have c9:=beq_eq_false_iff_ne.mpr (show a0 ≠ 9 by omega)
 have c10:=beq_eq_false_iff_ne.mpr (show a0 ≠ 10 by omega)
 have c11:=beq_eq_false_iff_ne.mpr (show a0 ≠ 11 by omega)
 have c12:=beq_eq_false_iff_ne.mpr (show a0 ≠ 12 by omega)
 have c13:=beq_eq_false_iff_ne.mpr (show a0 ≠ 13 by omega)
 have c14:=beq_eq_false_iff_ne.mpr (show a0 ≠ 14 by omega)
 have c15:=beq_eq_false_iff_ne.mpr (show a0 ≠ 15 by omega)
 have c16:=beq_eq_false_iff_ne.mpr (show a0 ≠ 16 by omega)
 have c17:=beq_eq_false_iff_ne.mpr (show a0 ≠ 17 by omega)
 have c18:=beq_eq_false_iff_ne.mpr (show a0 ≠ 18 by omega)
 have c19:=beq_eq_false_iff_ne.mpr (show a0 ≠ 19 by omega)
 have c20:=beq_eq_false_iff_ne.mpr (show a0 ≠ 20 by omega)
 have c21:=beq_eq_false_iff_ne.mpr (show a0 ≠ 21 by omega)
 have c22:=beq_eq_false_iff_ne.mpr (show a0 ≠ 22 by omega)
 have c23:=beq_eq_false_iff_ne.mpr (show a0 ≠ 23 by omega)
 have c24:=beq_eq_false_iff_ne.mpr (show a0 ≠ 24 by omega)
 have c25:=beq_eq_false_iff_ne.mpr (show a0 ≠ 25 by omega)
 have c26:=beq_eq_false_iff_ne.mpr (show a0 ≠ 26 by omega)
 have VQ:=beq_eq_false_iff_ne.mpr (show a0 ≠ 27 by omega)
 have c28:=beq_eq_false_iff_ne.mpr (show a0 ≠ 28 by omega)
 have c29:=beq_eq_false_iff_ne.mpr (show a0 ≠ 29 by omega)
 clear hk
 replace h:=Option.bind_eq_some_iff.mp h
 obtain ⟨⟨t1,t2,t3,t4,t5,t6⟩,hA,h⟩:=h
 simp only [Option.some.injEq,Prod.mk.injEq] at h
 obtain ⟨rfl,rfl,rfl,rfl,rfl,rfl⟩:=h
 have HA:=ah.mk hA
 clear hA
 have M:=ah.mk (Mem.start [3] w)
 go_enter Tryz.func83,Tryz.ntmps83
 go_wp2_with (refine eB M 2 #[.string (⟨#[]⟩ : ByteArray),.int .i64 0,.int .i64 0,.string (⟨#[]⟩ : ByteArray),.string (⟨#[]⟩ : ByteArray)] 133 ?_; clear M; intro g w1 M1)
 refine (dW.calls a0 _ _ _ _ _ _ _ HA.out).mono ?_
 rintro e w2 ⟨rfl,hb⟩
 have M2:=ah.mk (Mem.call M1.out hb)
 clear M1 hb
 go_wp2_with (refine eR M2 133 2 0 _ ?_; clear M2; intro w3 M3)
 exact bodyPost_ret (dw rfl _ _ g 133 _ (0,0) _ rfl (M3.out.at 0 rfl) Tryz.underlying133 rfl (by kernel_rfl)) rfl ⟨rfl,M3.out.below⟩
theorem aT.calls (a0 : Int) (r1 : ByteArray) (r2 : Int) (r3 : Int) (r4 : ByteArray) (r5 : ByteArray) (r6 : Bool) (w : World) (h : aT.f a0 = some (r1,r2,r3,r4,r5,r6)) :
  Calls Tryz.prog 83 #[.int .i64 a0] w fun e w' => e = .returned (.tuple #[.agg #[.string r1,.int .i64 r2,.int .i64 r3,.string r4,.string r5],.bool r6]) ∧ Below w.heap.size w w':=by
 by_cases hk : a0 < 1 ∨ 29 < a0
 ·exact Cj a0 r1 r2 r3 r4 r5 r6 w h hk
 by_cases hka : a0 < 11
 ·exact EZ a0 r1 r2 r3 r4 r5 r6 w h (by omega)
 by_cases hkb : a0 < 21
 ·exact E5 a0 r1 r2 r3 r4 r5 r6 w h (by omega)
 exact E8 a0 r1 r2 r3 r4 r5 r6 w h (by omega)
end Go.Proofs.YtdbpglhdicmhhaaGreatDoor.GA
end

section

end

section
namespace Go.Proofs.YtdbpglhdicmhhaaGreatDoor.GA
open Go.RowKit Go.Proofs.YtdbpglhdicmhhaaGreatDoorW.aI Go.Proofs.YtdbpglhdicmhhaaGreatDoorW.aX Go.Proofs.YtdbpglhdicmhhaaGreatDoorW.aZ
def iC.f (a0 : Int) : Option (Int × Int):=(aT.f a0).bind fun Ov => (if Ov.2.2.2.2.2 = true then (some (Ov.2.1,0)) else (some (0,60)))
theorem iC.calls (a0 : Int) (r1 : Int) (r2 : Int) (w : World) (h : iC.f a0 = some (r1,r2)) :
  Calls Tryz.prog 42 #[.int .i64 a0] w fun e w' => e = .returned (.tuple #[.int .i64 r1,.int .i64 r2]) ∧ Below w.heap.size w w':=by
 have uh:=Tryz.underlying133
 have HB:=ah.mk (Below.refl w.heap.size w)
 have H : ((aT.f a0).bind fun Ov => (if Ov.2.2.2.2.2 = true then (some (Ov.2.1,0)) else (some (0,60)))) = some (r1,r2):=h
 clear h
 replace H:=Option.bind_eq_some_iff.mp H
 obtain ⟨⟨afy,Z8,afz,afA,afB,afC⟩,RP,H⟩:=H
 replace H : (if afC = true then (some (Z8,0)) else (some (0,60))) = some (r1,r2):=H
 have A2:=ah.mk RP
 clear RP
 by_cases c3 : afC = true
 ·subst c3
  have H1 : (some (Z8,0)) = some (r1,r2):=by rw [if_pos rfl] at H; exact H
  clear H
  have H:=H1
  clear H1
  simp only [Option.some.injEq,Prod.mk.injEq] at H
  obtain ⟨rfl,rfl⟩:=H
  go_enter Tryz.func42,Tryz.ntmps42
  go_wp2_with (first | ((with_reducible refine dn (f:=83) rfl ?_); refine goesL_ (some 8) rfl rfl Tryz.func83 (by kernel_rfl) rfl #[.int .i64 a0] rfl (by (try simp only [List.map_toArray,List.map_cons,List.map_nil]); first | done | rfl | (simp only [List.length_drop,List.length_take]; rfl)) ?_; (with_reducible refine (aT.calls a0 afy Z8 afz afA afB true _ A2.out).mono ?_); rintro e w4 ⟨rfl,hb⟩; refine ⟨_,rfl,?_⟩; have n0_:=ah.mk (bP (by repeat (first | (with_reducible first | exact HB.out | apply ak | apply aj | apply ay) | exact HB.out)) hb); clear HB; have HB:=n0_; clear n0_; (try clear hb); (try clear hb2); (try clear hk); (try clear hi)) | ((with_reducible refine bI (N:=4) rfl ?_); refine dV ?hg (N:=4) ?hd (cs:=#[.string (⟨#[]⟩ : ByteArray),.int .i64 0,.int .i64 0,.string (⟨#[]⟩ : ByteArray),.string (⟨#[]⟩ : ByteArray)]) (t:=133) ?hr ?_; (case hd => rfl); (case hg => rfl); (case hr => first | (go_simp; done) | (go_simp; rfl)); intro xJ hg w5 hbox hb; have n0_:=ah.mk (bP (by repeat (first | (with_reducible first | exact HB.out | apply ak | apply aj | apply ay) | exact HB.out)) hb); have n1_:=ah.mk (hbox); have n2_:=ah.mk ((by rw [hg]; exact (bV (by repeat (first | (with_reducible first | exact HB.out | apply ak | apply aj | apply ay) | exact HB.out))) : w.heap.size ≤ xJ)); have n3_:=ah.mk ((by rw [hg]; exact (bV (by repeat (first | (with_reducible first | exact HB.out | apply ak | apply aj | apply ay) | exact HB.out))) : w.heap.size ≤ xJ)); clear HB; have HB:=n0_; have sS:=n1_; have ad9:=n2_; have Vr:=n3_; clear n0_ n1_ n2_ n3_; clear hb hbox hg; have Ah : w5.cell? ⟨xJ,0,none⟩ = some (.string (⟨#[]⟩ : ByteArray)):=(aA sS.out 0).trans rfl; have Aj : w5.cell? ⟨xJ,1,none⟩ = some (.int .i64 0):=(aA sS.out 1).trans rfl; have Ak : w5.cell? ⟨xJ,2,none⟩ = some (.int .i64 0):=(aA sS.out 2).trans rfl; have acu : w5.cell? ⟨xJ,3,none⟩ = some (.string (⟨#[]⟩ : ByteArray)):=(aA sS.out 3).trans rfl; have acv : w5.cell? ⟨xJ,4,none⟩ = some (.string (⟨#[]⟩ : ByteArray)):=(aA sS.out 4).trans rfl; have Am:=au sS.out 0; have Ap:=au sS.out 1; have Aq:=au sS.out 2; have acI:=au sS.out 3; have acJ:=au sS.out 4))
  go_ret2
  exact ⟨by first | rfl | (simp [bZ,cO] <;> rfl) | (simp [*,bZ,cO] <;> rfl),by repeat (first | (with_reducible first | exact HB.out | apply ak | apply aj | apply ay | refine aN ?_ Vr.out) | exact HB.out)⟩
 ·replace c3:=Bool.eq_false_iff.mpr c3
  subst c3
  have H1 : (some (0,60)) = some (r1,r2):=by rw [if_neg (show ¬ (false = true) by decide)] at H; exact H
  clear H
  have H:=H1
  clear H1
  simp only [Option.some.injEq,Prod.mk.injEq] at H
  obtain ⟨rfl,rfl⟩:=H
  go_enter Tryz.func42,Tryz.ntmps42
  go_wp2_with (first | ((with_reducible refine dn (f:=83) rfl ?_); refine goesL_ (some 8) rfl rfl Tryz.func83 (by kernel_rfl) rfl #[.int .i64 a0] rfl (by (try simp only [List.map_toArray,List.map_cons,List.map_nil]); first | done | rfl | (simp only [List.length_drop,List.length_take]; rfl)) ?_; (with_reducible refine (aT.calls a0 afy Z8 afz afA afB false _ A2.out).mono ?_); rintro e w7 ⟨rfl,hb⟩; refine ⟨_,rfl,?_⟩; have n0_:=ah.mk (bP (by repeat (first | (with_reducible first | exact HB.out | apply ak | apply aj | apply ay) | exact HB.out)) hb); clear HB; have HB:=n0_; clear n0_; (try clear hb); (try clear hb2); (try clear hk); (try clear hi)) | ((with_reducible refine bI (N:=4) rfl ?_); refine dV ?hg (N:=4) ?hd (cs:=#[.string (⟨#[]⟩ : ByteArray),.int .i64 0,.int .i64 0,.string (⟨#[]⟩ : ByteArray),.string (⟨#[]⟩ : ByteArray)]) (t:=133) ?hr ?_; (case hd => rfl); (case hg => rfl); (case hr => first | (go_simp; done) | (go_simp; rfl)); intro xJ hg w8 hbox hb; have n0_:=ah.mk (bP (by repeat (first | (with_reducible first | exact HB.out | apply ak | apply aj | apply ay) | exact HB.out)) hb); have n1_:=ah.mk (hbox); have n2_:=ah.mk ((by rw [hg]; exact (bV (by repeat (first | (with_reducible first | exact HB.out | apply ak | apply aj | apply ay) | exact HB.out))) : w.heap.size ≤ xJ)); have n3_:=ah.mk ((by rw [hg]; exact (bV (by repeat (first | (with_reducible first | exact HB.out | apply ak | apply aj | apply ay) | exact HB.out))) : w.heap.size ≤ xJ)); clear HB; have HB:=n0_; have sS:=n1_; have ad9:=n2_; have Vr:=n3_; clear n0_ n1_ n2_ n3_; clear hb hbox hg; have WB : w8.cell? ⟨xJ,0,none⟩ = some (.string (⟨#[]⟩ : ByteArray)):=(aA sS.out 0).trans rfl; have WC : w8.cell? ⟨xJ,1,none⟩ = some (.int .i64 0):=(aA sS.out 1).trans rfl; have WE : w8.cell? ⟨xJ,2,none⟩ = some (.int .i64 0):=(aA sS.out 2).trans rfl; have acw : w8.cell? ⟨xJ,3,none⟩ = some (.string (⟨#[]⟩ : ByteArray)):=(aA sS.out 3).trans rfl; have acy : w8.cell? ⟨xJ,4,none⟩ = some (.string (⟨#[]⟩ : ByteArray)):=(aA sS.out 4).trans rfl; have WL:=au sS.out 0; have WM:=au sS.out 1; have WO:=au sS.out 2; have acK:=au sS.out 3; have acL:=au sS.out 4))
  go_ret2
  exact ⟨by first | rfl | (simp [bZ,cO] <;> rfl) | (simp [*,bZ,cO] <;> rfl),by repeat (first | (with_reducible first | exact HB.out | apply ak | apply aj | apply ay | refine aN ?_ Vr.out) | exact HB.out)⟩
end Go.Proofs.YtdbpglhdicmhhaaGreatDoor.GA
end

section
namespace Go.Proofs.YtdbpglhdicmhhaaGreatDoor.GA
open Go.RowKit Go.Proofs.YtdbpglhdicmhhaaGreatDoorW.aI Go.Proofs.YtdbpglhdicmhhaaGreatDoorW.aX Go.Proofs.YtdbpglhdicmhhaaGreatDoorW.aZ
def bK.f (a0 : Int) : Option (Bool × Bool × Bool × Int × Int):=if a0 = 1 then (some (true,false,false,0,0)) else (if a0 = 2 then (some (true,true,false,0,0)) else (if a0 = 3 then (some (true,true,true,0,0)) else (if a0 = 4 then (some (false,false,false,0,65535)) else (if a0 = 5 then (some (true,false,false,0,65535)) else (if a0 = 6 then (some (true,false,false,(-32768),32767)) else (some (false,false,false,0,0)))))))
theorem bK.calls (a0 : Int) (r1 : Bool) (r2 : Bool) (r3 : Bool) (r4 : Int) (r5 : Int) (w : World) (h : bK.f a0 = some (r1,r2,r3,r4,r5)) :
  Calls Tryz.prog 43 #[.int .i64 a0] w fun e w' => e = .returned (.tuple #[.bool r1,.bool r2,.bool r3,.int .i64 r4,.int .i64 r5]) ∧ aV w w':=by
 have H : (if a0 = 1 then (some (true,false,false,0,0)) else (if a0 = 2 then (some (true,true,false,0,0)) else (if a0 = 3 then (some (true,true,true,0,0)) else (if a0 = 4 then (some (false,false,false,0,65535)) else (if a0 = 5 then (some (true,false,false,0,65535)) else (if a0 = 6 then (some (true,false,false,(-32768),32767)) else (some (false,false,false,0,0)))))))) = some (r1,r2,r3,r4,r5):=h
 clear h
 by_cases c2 : a0 = 1
 ·rw [if_pos c2] at H
  have DT : (a0 == 1) = true:=beq_iff_eq.mpr c2
  have QC : (a0 != 1) = false:=bne_eq_false_iff_eq.mpr c2
  clear c2
  simp only [Option.some.injEq,Prod.mk.injEq] at H
  obtain ⟨rfl,rfl,rfl,rfl,rfl⟩:=H
  go_enter Tryz.func43,Tryz.ntmps43
  go_wp2
  refine bodyPost_ret (qW (rs:=[.tmp 2,.tmp 3,.tmp 4,.tmp 5,.tmp 6]) rfl (by simp) (.tmp (.tmp (.tmp (.tmp (.tmp .nil)))))) rfl ?_
  exact ⟨by first | rfl | (simp; done) | (simp [*]; done),by repeat (first | exact aV.refl _ | apply aV.step)⟩
 ·rw [if_neg c2] at H
  have DT : (a0 == 1) = false:=beq_eq_false_iff_ne.mpr c2
  have QC : (a0 != 1) = true:=bne_iff_ne.mpr c2
  by_cases c3 : a0 = 2
  ·rw [if_pos c3] at H
   have rC : (a0 == 2) = true:=beq_iff_eq.mpr c3
   have Ag : (a0 != 2) = false:=bne_eq_false_iff_eq.mpr c3
   clear c3
   simp only [Option.some.injEq,Prod.mk.injEq] at H
   obtain ⟨rfl,rfl,rfl,rfl,rfl⟩:=H
   go_enter Tryz.func43,Tryz.ntmps43
   go_wp2
   refine bodyPost_ret (qW (rs:=[.tmp 2,.tmp 3,.tmp 4,.tmp 5,.tmp 6]) rfl (by simp) (.tmp (.tmp (.tmp (.tmp (.tmp .nil)))))) rfl ?_
   exact ⟨by first | rfl | (simp; done) | (simp [*]; done),by repeat (first | exact aV.refl _ | apply aV.step)⟩
  ·rw [if_neg c3] at H
   have rC : (a0 == 2) = false:=beq_eq_false_iff_ne.mpr c3
   have Ag : (a0 != 2) = true:=bne_iff_ne.mpr c3
   by_cases c4 : a0 = 3
   ·rw [if_pos c4] at H
    have wU : (a0 == 3) = true:=beq_iff_eq.mpr c4
    have BK : (a0 != 3) = false:=bne_eq_false_iff_eq.mpr c4
    clear c4
    simp only [Option.some.injEq,Prod.mk.injEq] at H
    obtain ⟨rfl,rfl,rfl,rfl,rfl⟩:=H
    go_enter Tryz.func43,Tryz.ntmps43
    go_wp2
    refine bodyPost_ret (qW (rs:=[.tmp 2,.tmp 3,.tmp 4,.tmp 5,.tmp 6]) rfl (by simp) (.tmp (.tmp (.tmp (.tmp (.tmp .nil)))))) rfl ?_
    exact ⟨by first | rfl | (simp; done) | (simp [*]; done),by repeat (first | exact aV.refl _ | apply aV.step)⟩
   ·rw [if_neg c4] at H
    have wU : (a0 == 3) = false:=beq_eq_false_iff_ne.mpr c4
    have BK : (a0 != 3) = true:=bne_iff_ne.mpr c4
    by_cases c5 : a0 = 4
    ·rw [if_pos c5] at H
     have rZ : (a0 == 4) = true:=beq_iff_eq.mpr c5
     have OD : (a0 != 4) = false:=bne_eq_false_iff_eq.mpr c5
     clear c5
     simp only [Option.some.injEq,Prod.mk.injEq] at H
     obtain ⟨rfl,rfl,rfl,rfl,rfl⟩:=H
     go_enter Tryz.func43,Tryz.ntmps43
     go_wp2
     refine bodyPost_ret (qW (rs:=[.tmp 2,.tmp 3,.tmp 4,.tmp 5,.tmp 6]) rfl (by simp) (.tmp (.tmp (.tmp (.tmp (.tmp .nil)))))) rfl ?_
     exact ⟨by first | rfl | (simp; done) | (simp [*]; done),by repeat (first | exact aV.refl _ | apply aV.step)⟩
    ·rw [if_neg c5] at H
     have rZ : (a0 == 4) = false:=beq_eq_false_iff_ne.mpr c5
     have OD : (a0 != 4) = true:=bne_iff_ne.mpr c5
     by_cases c6 : a0 = 5
     ·rw [if_pos c6] at H
      have GY : (a0 == 5) = true:=beq_iff_eq.mpr c6
      have QE : (a0 != 5) = false:=bne_eq_false_iff_eq.mpr c6
      clear c6
      simp only [Option.some.injEq,Prod.mk.injEq] at H
      obtain ⟨rfl,rfl,rfl,rfl,rfl⟩:=H
      go_enter Tryz.func43,Tryz.ntmps43
      go_wp2
      refine bodyPost_ret (qW (rs:=[.tmp 2,.tmp 3,.tmp 4,.tmp 5,.tmp 6]) rfl (by simp) (.tmp (.tmp (.tmp (.tmp (.tmp .nil)))))) rfl ?_
      exact ⟨by first | rfl | (simp; done) | (simp [*]; done),by repeat (first | exact aV.refl _ | apply aV.step)⟩
     ·rw [if_neg c6] at H
      have GY : (a0 == 5) = false:=beq_eq_false_iff_ne.mpr c6
      have QE : (a0 != 5) = true:=bne_iff_ne.mpr c6
      by_cases c7 : a0 = 6
      ·rw [if_pos c7] at H
       have Bg : (a0 == 6) = true:=beq_iff_eq.mpr c7
       have IL : (a0 != 6) = false:=bne_eq_false_iff_eq.mpr c7
       clear c7
       simp only [Option.some.injEq,Prod.mk.injEq] at H
       obtain ⟨rfl,rfl,rfl,rfl,rfl⟩:=H
       go_enter Tryz.func43,Tryz.ntmps43
       go_wp2
       refine bodyPost_ret (qW (rs:=[.tmp 2,.tmp 3,.tmp 4,.tmp 5,.tmp 6]) rfl (by simp) (.tmp (.tmp (.tmp (.tmp (.tmp .nil)))))) rfl ?_
       exact ⟨by first | rfl | (simp; done) | (simp [*]; done),by repeat (first | exact aV.refl _ | apply aV.step)⟩
      ·rw [if_neg c7] at H
       have Bg : (a0 == 6) = false:=beq_eq_false_iff_ne.mpr c7
       have IL : (a0 != 6) = true:=bne_iff_ne.mpr c7
       simp only [Option.some.injEq,Prod.mk.injEq] at H
       obtain ⟨rfl,rfl,rfl,rfl,rfl⟩:=H
       go_enter Tryz.func43,Tryz.ntmps43
       go_wp2
       refine bodyPost_ret (qW (rs:=[.tmp 2,.tmp 3,.tmp 4,.tmp 5,.tmp 6]) rfl (by simp) (.tmp (.tmp (.tmp (.tmp (.tmp .nil)))))) rfl ?_
       exact ⟨by first | rfl | (simp; done) | (simp [*]; done),by repeat (first | exact aV.refl _ | apply aV.step)⟩
end Go.Proofs.YtdbpglhdicmhhaaGreatDoor.GA
end

section
namespace Go.Proofs.YtdbpglhdicmhhaaGreatDoor.GA
open Go.RowKit Go.Proofs.YtdbpglhdicmhhaaGreatDoorW.aI Go.Proofs.YtdbpglhdicmhhaaGreatDoorW.aX Go.Proofs.YtdbpglhdicmhhaaGreatDoorW.aZ
def iR.f (a0 : Int) (a1 : Bool) : Option (Bool):=if a0 = 0 then (some true) else (if a1 = true then (if a0 > 0 then (some (decide (a0 < 16))) else (some false)) else (some false))
theorem iR.calls (a0 : Int) (a1 : Bool) (r : Bool) (w : World) (h : iR.f a0 a1 = some r) :
  Calls Tryz.prog 84 #[.int .i64 a0,.bool a1] w fun e w' => e = .returned (.bool r) ∧ aV w w':=by
 have H : (if a0 = 0 then (some true) else (if a1 = true then (if a0 > 0 then (some (decide (a0 < 16))) else (some false)) else (some false))) = some r:=h
 clear h
 by_cases c3 : a0 = 0
 ·rw [if_pos c3] at H
  have rC : (a0 == 0) = true:=beq_iff_eq.mpr c3
  have Ag : (a0 != 0) = false:=bne_eq_false_iff_eq.mpr c3
  clear c3
  obtain rfl:=Option.some.inj H
  go_enter Tryz.func84,Tryz.ntmps84
  go_wp2
  go_ret
  exact ⟨by first | rfl | (simp; done) | (simp [*]; done),by repeat (first | exact aV.refl _ | apply aV.step)⟩
 ·rw [if_neg c3] at H
  have rC : (a0 == 0) = false:=beq_eq_false_iff_ne.mpr c3
  have Ag : (a0 != 0) = true:=bne_iff_ne.mpr c3
  by_cases c4 : a1 = true
  ·subst c4
   have H1 : (if a0 > 0 then (some (decide (a0 < 16))) else (some false)) = some r:=by rw [if_pos rfl] at H; exact H
   clear H
   have H:=H1
   clear H1
   by_cases c5 : a0 > 0
   ·rw [if_pos c5] at H
    have rZ : decide (0 < a0) = true:=decide_eq_true c5
    clear c5
    obtain rfl:=Option.some.inj H
    go_enter Tryz.func84,Tryz.ntmps84
    go_wp2
    go_ret
    exact ⟨by first | rfl | (simp; done) | (simp [*]; done),by repeat (first | exact aV.refl _ | apply aV.step)⟩
   ·rw [if_neg c5] at H
    have rZ : decide (0 < a0) = false:=decide_eq_false c5
    clear c5
    obtain rfl:=Option.some.inj H
    go_enter Tryz.func84,Tryz.ntmps84
    go_wp2
    go_ret
    exact ⟨by first | rfl | (simp; done) | (simp [*]; done),by repeat (first | exact aV.refl _ | apply aV.step)⟩
  ·replace c4:=Bool.eq_false_iff.mpr c4
   subst c4
   have H1 : (some false) = some r:=by rw [if_neg (show ¬ (false = true) by decide)] at H; exact H
   clear H
   have H:=H1
   clear H1
   obtain rfl:=Option.some.inj H
   go_enter Tryz.func84,Tryz.ntmps84
   go_wp2
   go_ret
   exact ⟨by first | rfl | (simp; done) | (simp [*]; done),by repeat (first | exact aV.refl _ | apply aV.step)⟩
end Go.Proofs.YtdbpglhdicmhhaaGreatDoor.GA
end

section
namespace Go.Proofs.YtdbpglhdicmhhaaGreatDoor.GA
open Go.RowKit Go.Proofs.YtdbpglhdicmhhaaGreatDoorW.aI Go.Proofs.YtdbpglhdicmhhaaGreatDoorW.aX Go.Proofs.YtdbpglhdicmhhaaGreatDoorW.aZ
end Go.Proofs.YtdbpglhdicmhhaaGreatDoor.GA
end

section
namespace Go.Proofs.YtdbpglhdicmhhaaGreatDoor.GA
open Go.RowKit Go.Proofs.YtdbpglhdicmhhaaGreatDoorW.aI Go.Proofs.YtdbpglhdicmhhaaGreatDoorW.aX Go.Proofs.YtdbpglhdicmhhaaGreatDoorW.aZ
end Go.Proofs.YtdbpglhdicmhhaaGreatDoor.GA
end
