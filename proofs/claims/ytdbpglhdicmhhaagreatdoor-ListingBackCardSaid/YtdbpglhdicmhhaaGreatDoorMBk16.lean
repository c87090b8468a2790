import Derived.Test.YtdbpglhdicmhhaaGreatDoorMBk15
import Derived.WalkKit
import Derived.Test.YtdbpglhdicmhhaaGreatDoorMBk4
import Derived.Test.YtdbpglhdicmhhaaGreatDoorMBk13
import Derived.Test.YtdbpglhdicmhhaaGreatDoorMBk14
set_option linter.unusedVariables false
set_option linter.unusedSimpArgs false
section
namespace Go.Proofs.YtdbpglhdicmhhaaGreatDoor.GA
open Go.RowKit Go.Proofs.YtdbpglhdicmhhaaGreatDoorW.PrintWords Go.Proofs.YtdbpglhdicmhhaaGreatDoorW.PrintLast Go.Proofs.YtdbpglhdicmhhaaGreatDoorW.PrintMore Hctx
def rotaref06_table.f (a0 : Int) : Option (ByteArray × Int × Int × ByteArray × ByteArray × Bool):=if a0 = 1 then (some ((⟨#[110,111,112]⟩ : ByteArray),0,1,(⟨#[]⟩ : ByteArray),(⟨#[]⟩ : ByteArray),true)) else (if a0 = 2 then (some ((⟨#[115,101,116]⟩ : ByteArray),6,1,(⟨#[]⟩ : ByteArray),(⟨#[97]⟩ : ByteArray),true)) else (if a0 = 3 then (some ((⟨#[104,105,103,104]⟩ : ByteArray),5,1,(⟨#[97]⟩ : ByteArray),(⟨#[97]⟩ : ByteArray),true)) else (if a0 = 4 then (some ((⟨#[109,111,118,101]⟩ : ByteArray),2,1,(⟨#[98]⟩ : ByteArray),(⟨#[97]⟩ : ByteArray),true)) else (if a0 = 5 then (some ((⟨#[97,100,100]⟩ : ByteArray),3,1,(⟨#[98,99]⟩ : ByteArray),(⟨#[97]⟩ : ByteArray),true)) else (if a0 = 6 then (some ((⟨#[115,117,98]⟩ : ByteArray),3,1,(⟨#[98,99]⟩ : ByteArray),(⟨#[97]⟩ : ByteArray),true)) else (if a0 = 7 then (some ((⟨#[109,117,108]⟩ : ByteArray),3,3,(⟨#[98,99]⟩ : ByteArray),(⟨#[97]⟩ : ByteArray),true)) else (if a0 = 8 then (some ((⟨#[100,105,118]⟩ : ByteArray),3,8,(⟨#[98,99]⟩ : ByteArray),(⟨#[97]⟩ : ByteArray),true)) else (if a0 = 9 then (some ((⟨#[114,101,109]⟩ : ByteArray),3,8,(⟨#[98,99]⟩ : ByteArray),(⟨#[97]⟩ : ByteArray),true)) else (if a0 = 10 then (some ((⟨#[97,110,100]⟩ : ByteArray),3,1,(⟨#[98,99]⟩ : ByteArray),(⟨#[97]⟩ : ByteArray),true)) else (if a0 = 11 then (some ((⟨#[111,114]⟩ : ByteArray),3,1,(⟨#[98,99]⟩ : ByteArray),(⟨#[97]⟩ : ByteArray),true)) else (if a0 = 12 then (some ((⟨#[120,111,114]⟩ : ByteArray),3,1,(⟨#[98,99]⟩ : ByteArray),(⟨#[97]⟩ : ByteArray),true)) else (if a0 = 13 then (some ((⟨#[115,104,108]⟩ : ByteArray),3,1,(⟨#[98,99]⟩ : ByteArray),(⟨#[97]⟩ : ByteArray),true)) else (if a0 = 14 then (some ((⟨#[115,104,114]⟩ : ByteArray),3,1,(⟨#[98,99]⟩ : ByteArray),(⟨#[97]⟩ : ByteArray),true)) else (if a0 = 15 then (some ((⟨#[108,101,115,115]⟩ : ByteArray),3,1,(⟨#[98,99]⟩ : ByteArray),(⟨#[97]⟩ : ByteArray),true)) else (if a0 = 16 then (some ((⟨#[101,113,117,97,108]⟩ : ByteArray),3,1,(⟨#[98,99]⟩ : ByteArray),(⟨#[97]⟩ : ByteArray),true)) else (if a0 = 17 then (some ((⟨#[106,117,109,112]⟩ : ByteArray),4,1,(⟨#[]⟩ : ByteArray),(⟨#[]⟩ : ByteArray),true)) else (if a0 = 18 then (some ((⟨#[122,101,114,111]⟩ : ByteArray),5,1,(⟨#[97]⟩ : ByteArray),(⟨#[]⟩ : ByteArray),true)) else (if a0 = 19 then (some ((⟨#[115,111,109,101]⟩ : ByteArray),5,1,(⟨#[97]⟩ : ByteArray),(⟨#[]⟩ : ByteArray),true)) else (if a0 = 20 then (some ((⟨#[99,97,108,108]⟩ : ByteArray),4,2,(⟨#[]⟩ : ByteArray),(⟨#[]⟩ : ByteArray),true)) else (if a0 = 21 then (some ((⟨#[114,101,116]⟩ : ByteArray),0,2,(⟨#[]⟩ : ByteArray),(⟨#[]⟩ : ByteArray),true)) else (if a0 = 22 then (some ((⟨#[115,112,97,119,110]⟩ : ByteArray),5,4,(⟨#[42]⟩ : ByteArray),(⟨#[97]⟩ : ByteArray),true)) else (if a0 = 23 then (some ((⟨#[121,105,101,108,100]⟩ : ByteArray),0,1,(⟨#[]⟩ : ByteArray),(⟨#[]⟩ : ByteArray),true)) else (if a0 = 24 then (some ((⟨#[101,120,105,116]⟩ : ByteArray),0,1,(⟨#[]⟩ : ByteArray),(⟨#[]⟩ : ByteArray),true)) else (if a0 = 25 then (some ((⟨#[115,101,108,102]⟩ : ByteArray),1,1,(⟨#[]⟩ : ByteArray),(⟨#[97]⟩ : ByteArray),true)) else (if a0 = 26 then (some ((⟨#[110,111,119]⟩ : ByteArray),1,1,(⟨#[]⟩ : ByteArray),(⟨#[97]⟩ : ByteArray),true)) else (if a0 = 27 then (some ((⟨#[115,108,101,101,112]⟩ : ByteArray),1,1,(⟨#[97]⟩ : ByteArray),(⟨#[]⟩ : ByteArray),true)) else (if a0 = 28 then (some ((⟨#[109,97,107,101]⟩ : ByteArray),2,4,(⟨#[98]⟩ : ByteArray),(⟨#[97]⟩ : ByteArray),true)) else (if a0 = 29 then (some ((⟨#[115,101,110,100]⟩ : ByteArray),2,2,(⟨#[97,98]⟩ : ByteArray),(⟨#[]⟩ : ByteArray),true)) else ((rotaref06_later.f a0).bind fun bt190 => (some (bt190.1,bt190.2.1,bt190.2.2.1,bt190.2.2.2.1,bt190.2.2.2.2.1,bt190.2.2.2.2.2)))))))))))))))))))))))))))))))
set_option maxHeartbeats 4000000 in
set_option maxRecDepth 100000 in
theorem rotaref06_table_a (a0 : Int) (r1 : ByteArray) (r2 : Int) (r3 : Int) (r4 : ByteArray) (r5 : ByteArray) (r6 : Bool) (w : World) (h : rotaref06_table.f a0 = some (r1,r2,r3,r4,r5,r6)) (hk : a0 = 1 ∨ a0 = 2 ∨ a0 = 3 ∨ a0 = 4 ∨ a0 = 5 ∨ a0 = 6 ∨ a0 = 7 ∨ a0 = 8 ∨ a0 = 9 ∨ a0 = 10) :
  Calls Tryz.prog 83 #[.int .i64 a0] w fun e w' => e = .returned (.tuple #[.agg #[.string r1,.int .i64 r2,.int .i64 r3,.string r4,.string r5],.bool r6]) ∧ Below w.heap.size w w':=by
 rcases hk with rfl | rfl | rfl | rfl | rfl | rfl | rfl | rfl | rfl | rfl
 all_goals
  rw [show rotaref06_table.f _ = some (_,_,_,_,_,_) from rfl] at h
  simp only [Option.some.injEq,Prod.mk.injEq] at h
  obtain ⟨rfl,rfl,rfl,rfl,rfl,rfl⟩:=h
  have M:=Aside0.mk (Mem.start [3] w)
  go_enter Tryz.func83,Tryz.ntmps83
  go_wp2_with (first
   | (refine eB M 2 #[.string (⟨#[]⟩ : ByteArray),.int .i64 0,.int .i64 0,.string (⟨#[]⟩ : ByteArray),.string (⟨#[]⟩ : ByteArray)] 133 ?_; clear M; intro g w1 M1)
   | (refine eR M1 133 2 0 _ ?_; clear M1; intro w2 M2))
  exact bodyPost_ret (results_ct rfl _ _ g 133 _ (0,0) _ rfl (M2.out.at 0 rfl) Tryz.underlying133 rfl (by kernel_rfl)) rfl ⟨rfl,M2.out.below⟩
set_option maxHeartbeats 4000000 in
set_option maxRecDepth 100000 in
theorem rotaref06_table_b (a0 : Int) (r1 : ByteArray) (r2 : Int) (r3 : Int) (r4 : ByteArray) (r5 : ByteArray) (r6 : Bool) (w : World) (h : rotaref06_table.f a0 = some (r1,r2,r3,r4,r5,r6)) (hk : a0 = 11 ∨ a0 = 12 ∨ a0 = 13 ∨ a0 = 14 ∨ a0 = 15 ∨ a0 = 16 ∨ a0 = 17 ∨ a0 = 18 ∨ a0 = 19 ∨ a0 = 20) :
  Calls Tryz.prog 83 #[.int .i64 a0] w fun e w' => e = .returned (.tuple #[.agg #[.string r1,.int .i64 r2,.int .i64 r3,.string r4,.string r5],.bool r6]) ∧ Below w.heap.size w w':=by
 rcases hk with rfl | rfl | rfl | rfl | rfl | rfl | rfl | rfl | rfl | rfl
 all_goals
  rw [show rotaref06_table.f _ = some (_,_,_,_,_,_) from rfl] at h
  simp only [Option.some.injEq,Prod.mk.injEq] at h
  obtain ⟨rfl,rfl,rfl,rfl,rfl,rfl⟩:=h
  have M:=Aside0.mk (Mem.start [3] w)
  go_enter Tryz.func83,Tryz.ntmps83
  go_wp2_with (first
   | (refine eB M 2 #[.string (⟨#[]⟩ : ByteArray),.int .i64 0,.int .i64 0,.string (⟨#[]⟩ : ByteArray),.string (⟨#[]⟩ : ByteArray)] 133 ?_; clear M; intro g w1 M1)
   | (refine eR M1 133 2 0 _ ?_; clear M1; intro w2 M2))
  exact bodyPost_ret (results_ct rfl _ _ g 133 _ (0,0) _ rfl (M2.out.at 0 rfl) Tryz.underlying133 rfl (by kernel_rfl)) rfl ⟨rfl,M2.out.below⟩
set_option maxHeartbeats 4000000 in
set_option maxRecDepth 100000 in
theorem rotaref06_table_z (a0 : Int) (r1 : ByteArray) (r2 : Int) (r3 : Int) (r4 : ByteArray) (r5 : ByteArray) (r6 : Bool) (w : World) (h : rotaref06_table.f a0 = some (r1,r2,r3,r4,r5,r6)) (hk : a0 = 21 ∨ a0 = 22 ∨ a0 = 23 ∨ a0 = 24 ∨ a0 = 25 ∨ a0 = 26 ∨ a0 = 27 ∨ a0 = 28 ∨ a0 = 29) :
  Calls Tryz.prog 83 #[.int .i64 a0] w fun e w' => e = .returned (.tuple #[.agg #[.string r1,.int .i64 r2,.int .i64 r3,.string r4,.string r5],.bool r6]) ∧ Below w.heap.size w w':=by
 rcases hk with rfl | rfl | rfl | rfl | rfl | rfl | rfl | rfl | rfl
 all_goals
  rw [show rotaref06_table.f _ = some (_,_,_,_,_,_) from rfl] at h
  simp only [Option.some.injEq,Prod.mk.injEq] at h
  obtain ⟨rfl,rfl,rfl,rfl,rfl,rfl⟩:=h
  have M:=Aside0.mk (Mem.start [3] w)
  go_enter Tryz.func83,Tryz.ntmps83
  go_wp2_with (first
   | (refine eB M 2 #[.string (⟨#[]⟩ : ByteArray),.int .i64 0,.int .i64 0,.string (⟨#[]⟩ : ByteArray),.string (⟨#[]⟩ : ByteArray)] 133 ?_; clear M; intro g w1 M1)
   | (refine eR M1 133 2 0 _ ?_; clear M1; intro w2 M2))
  exact bodyPost_ret (results_ct rfl _ _ g 133 _ (0,0) _ rfl (M2.out.at 0 rfl) Tryz.underlying133 rfl (by kernel_rfl)) rfl ⟨rfl,M2.out.below⟩
set_option maxHeartbeats 4000000 in
set_option maxRecDepth 100000 in
theorem rotaref06_table_else (a0 : Int) (r1 : ByteArray) (r2 : Int) (r3 : Int) (r4 : ByteArray) (r5 : ByteArray) (r6 : Bool) (w : World) (h : rotaref06_table.f a0 = some (r1,r2,r3,r4,r5,r6)) (hk : a0 < 1 ∨ 29 < a0) :
  Calls Tryz.prog 83 #[.int .i64 a0] w fun e w' => e = .returned (.tuple #[.agg #[.string r1,.int .i64 r2,.int .i64 r3,.string r4,.string r5],.bool r6]) ∧ Below w.heap.size w w':=by
 unfold rotaref06_table.f at h
 rw [if_neg (show ¬ a0 = 1 by omega)] at h
 rw [if_neg (show ¬ a0 = 2 by omega)] at h
 rw [if_neg (show ¬ a0 = 3 by omega)] at h
 rw [if_neg (show ¬ a0 = 4 by omega)] at h
 rw [if_neg (show ¬ a0 = 5 by omega)] at h
 rw [if_neg (show ¬ a0 = 6 by omega)] at h
 rw [if_neg (show ¬ a0 = 7 by omega)] at h
 rw [if_neg (show ¬ a0 = 8 by omega)] at h
 rw [if_neg (show ¬ a0 = 9 by omega)] at h
 rw [if_neg (show ¬ a0 = 10 by omega)] at h
 rw [if_neg (show ¬ a0 = 11 by omega)] at h
 rw [if_neg (show ¬ a0 = 12 by omega)] at h
 rw [if_neg (show ¬ a0 = 13 by omega)] at h
 rw [if_neg (show ¬ a0 = 14 by omega)] at h
 rw [if_neg (show ¬ a0 = 15 by omega)] at h
 rw [if_neg (show ¬ a0 = 16 by omega)] at h
 rw [if_neg (show ¬ a0 = 17 by omega)] at h
 rw [if_neg (show ¬ a0 = 18 by omega)] at h
 rw [if_neg (show ¬ a0 = 19 by omega)] at h
 rw [if_neg (show ¬ a0 = 20 by omega)] at h
 rw [if_neg (show ¬ a0 = 21 by omega)] at h
 rw [if_neg (show ¬ a0 = 22 by omega)] at h
 rw [if_neg (show ¬ a0 = 23 by omega)] at h
 rw [if_neg (show ¬ a0 = 24 by omega)] at h
 rw [if_neg (show ¬ a0 = 25 by omega)] at h
 rw [if_neg (show ¬ a0 = 26 by omega)] at h
 rw [if_neg (show ¬ a0 = 27 by omega)] at h
 rw [if_neg (show ¬ a0 = 28 by omega)] at h
 rw [if_neg (show ¬ a0 = 29 by omega)] at h
 have c1:=beq_eq_false_iff_ne.mpr (show a0 ≠ 1 by omega)
 have c2:=beq_eq_false_iff_ne.mpr (show a0 ≠ 2 by omega)
 have c3:=beq_eq_false_iff_ne.mpr (show a0 ≠ 3 by omega)
 have c4:=beq_eq_false_iff_ne.mpr (show a0 ≠ 4 by omega)
 have c5:=beq_eq_false_iff_ne.mpr (show a0 ≠ 5 by omega)
 have c6:=beq_eq_false_iff_ne.mpr (show a0 ≠ 6 by omega)
 have c7:=beq_eq_false_iff_ne.mpr (show a0 ≠ 7 by omega)
 have c8:=beq_eq_false_iff_ne.mpr (show a0 ≠ 8 by omega)
 have c9:=beq_eq_false_iff_ne.mpr (show a0 ≠ 9 by omega)
 have c10:=beq_eq_false_iff_ne.mpr (show a0 ≠ 10 by omega)
 have c11:=beq_eq_false_iff_ne.mpr (show a0 ≠ 11 by omega)
 have c12:=beq_eq_false_iff_ne.mpr (show a0 ≠ 12 by omega)
 have c13:=beq_eq_false_iff_ne.mpr (show a0 ≠ 13 by omega)
 have c14:=beq_eq_false_iff_ne.mpr (show a0 ≠ 14 by omega)
 have c15:=beq_eq_false_iff_ne.mpr (show a0 ≠ 15 by omega)
 have c16:=beq_eq_false_iff_ne.mpr (show a0 ≠ 16 by omega)
 have c17:=beq_eq_false_iff_ne.mpr (show a0 ≠ 17 by omega)
 have c18:=beq_eq_false_iff_ne.mpr (show a0 ≠ 18 by omega)
 have c19:=beq_eq_false_iff_ne.mpr (show a0 ≠ 19 by omega)
 have c20:=beq_eq_false_iff_ne.mpr (show a0 ≠ 20 by omega)
 have c21:=beq_eq_false_iff_ne.mpr (show a0 ≠ 21 by omega)
 have c22:=beq_eq_false_iff_ne.mpr (show a0 ≠ 22 by omega)
 have c23:=beq_eq_false_iff_ne.mpr (show a0 ≠ 23 by omega)
 have c24:=beq_eq_false_iff_ne.mpr (show a0 ≠ 24 by omega)
 have c25:=beq_eq_false_iff_ne.mpr (show a0 ≠ 25 by omega)
 have c26:=beq_eq_false_iff_ne.mpr (show a0 ≠ 26 by omega)
 have c27:=beq_eq_false_iff_ne.mpr (show a0 ≠ 27 by omega)
 have c28:=beq_eq_false_iff_ne.mpr (show a0 ≠ 28 by omega)
 have c29:=beq_eq_false_iff_ne.mpr (show a0 ≠ 29 by omega)
 clear hk
 replace h:=Option.bind_eq_some_iff.mp h
 obtain ⟨⟨t1,t2,t3,t4,t5,t6⟩,hA,h⟩:=h
 simp only [Option.some.injEq,Prod.mk.injEq] at h
 obtain ⟨rfl,rfl,rfl,rfl,rfl,rfl⟩:=h
 have HA:=Aside0.mk hA
 clear hA
 have M:=Aside0.mk (Mem.start [3] w)
 go_enter Tryz.func83,Tryz.ntmps83
 go_wp2_with (refine eB M 2 #[.string (⟨#[]⟩ : ByteArray),.int .i64 0,.int .i64 0,.string (⟨#[]⟩ : ByteArray),.string (⟨#[]⟩ : ByteArray)] 133 ?_; clear M; intro g w1 M1)
 refine (rotaref06_later.calls a0 _ _ _ _ _ _ _ HA.out).mono ?_
 rintro e w2 ⟨rfl,hb⟩
 have M2:=Aside0.mk (Mem.call M1.out hb)
 clear M1 hb
 go_wp2_with (refine eR M2 133 2 0 _ ?_; clear M2; intro w3 M3)
 exact bodyPost_ret (results_ct rfl _ _ g 133 _ (0,0) _ rfl (M3.out.at 0 rfl) Tryz.underlying133 rfl (by kernel_rfl)) rfl ⟨rfl,M3.out.below⟩
theorem rotaref06_table.calls (a0 : Int) (r1 : ByteArray) (r2 : Int) (r3 : Int) (r4 : ByteArray) (r5 : ByteArray) (r6 : Bool) (w : World) (h : rotaref06_table.f a0 = some (r1,r2,r3,r4,r5,r6)) :
  Calls Tryz.prog 83 #[.int .i64 a0] w fun e w' => e = .returned (.tuple #[.agg #[.string r1,.int .i64 r2,.int .i64 r3,.string r4,.string r5],.bool r6]) ∧ Below w.heap.size w w':=by
 by_cases hk : a0 < 1 ∨ 29 < a0
 ·exact rotaref06_table_else a0 r1 r2 r3 r4 r5 r6 w h hk
 by_cases hka : a0 < 11
 ·exact rotaref06_table_a a0 r1 r2 r3 r4 r5 r6 w h (by omega)
 by_cases hkb : a0 < 21
 ·exact rotaref06_table_b a0 r1 r2 r3 r4 r5 r6 w h (by omega)
 exact rotaref06_table_z a0 r1 r2 r3 r4 r5 r6 w h (by omega)
end Go.Proofs.YtdbpglhdicmhhaaGreatDoor.GA
end

section

end

section
namespace Go.Proofs.YtdbpglhdicmhhaaGreatDoor.GA
open Go.RowKit Go.Proofs.YtdbpglhdicmhhaaGreatDoorW.PrintWords Go.Proofs.YtdbpglhdicmhhaaGreatDoorW.PrintLast Go.Proofs.YtdbpglhdicmhhaaGreatDoorW.PrintMore
end Go.Proofs.YtdbpglhdicmhhaaGreatDoor.GA
end

section
namespace Go.Proofs.YtdbpglhdicmhhaaGreatDoor.GA
open Go.RowKit Go.Proofs.YtdbpglhdicmhhaaGreatDoorW.PrintWords Go.Proofs.YtdbpglhdicmhhaaGreatDoorW.PrintLast Go.Proofs.YtdbpglhdicmhhaaGreatDoorW.PrintMore
def rotaref06_Has.f (a0 : Int) : Option (Bool × Bool × Bool × Int × Int):=if a0 = 1 then (some (true,false,false,0,0)) else (if a0 = 2 then (some (true,true,false,0,0)) else (if a0 = 3 then (some (true,true,true,0,0)) else (if a0 = 4 then (some (false,false,false,0,65535)) else (if a0 = 5 then (some (true,false,false,0,65535)) else (if a0 = 6 then (some (true,false,false,(-32768),32767)) else (some (false,false,false,0,0)))))))
set_option maxHeartbeats 8000000 in
set_option maxRecDepth 100000 in
theorem rotaref06_Has.calls (a0 : Int) (r1 : Bool) (r2 : Bool) (r3 : Bool) (r4 : Int) (r5 : Int) (w : World) (h : rotaref06_Has.f a0 = some (r1,r2,r3,r4,r5)) :
  Calls Tryz.prog 43 #[.int .i64 a0] w fun e w' => e = .returned (.tuple #[.bool r1,.bool r2,.bool r3,.int .i64 r4,.int .i64 r5]) ∧ Drawn0 w w':=by
 have H : (if a0 = 1 then (some (true,false,false,0,0)) else (if a0 = 2 then (some (true,true,false,0,0)) else (if a0 = 3 then (some (true,true,true,0,0)) else (if a0 = 4 then (some (false,false,false,0,65535)) else (if a0 = 5 then (some (true,false,false,0,65535)) else (if a0 = 6 then (some (true,false,false,(-32768),32767)) else (some (false,false,false,0,0)))))))) = some (r1,r2,r3,r4,r5):=h
 clear h
 by_cases c2 : a0 = 1
 ·rw [if_pos c2] at H
  have c2b0 : (a0 == 1) = true:=beq_iff_eq.mpr c2
  have c2b1 : (a0 != 1) = false:=bne_eq_false_iff_eq.mpr c2
  clear c2
  simp only [Option.some.injEq,Prod.mk.injEq] at H
  obtain ⟨rfl,rfl,rfl,rfl,rfl⟩:=H
  go_enter Tryz.func43,Tryz.ntmps43
  go_wp2
  refine bodyPost_ret (results_list (rs:=[.tmp 2,.tmp 3,.tmp 4,.tmp 5,.tmp 6]) rfl (by simp) (.tmp (.tmp (.tmp (.tmp (.tmp .nil)))))) rfl ?_
  exact ⟨by first | rfl | (simp; done) | (simp [*]; done),by repeat (first | exact Drawn0.refl _ | apply Drawn0.step)⟩
 ·rw [if_neg c2] at H
  have c2b0 : (a0 == 1) = false:=beq_eq_false_iff_ne.mpr c2
  have c2b1 : (a0 != 1) = true:=bne_iff_ne.mpr c2
  by_cases c3 : a0 = 2
  ·rw [if_pos c3] at H
   have c3b0 : (a0 == 2) = true:=beq_iff_eq.mpr c3
   have c3b1 : (a0 != 2) = false:=bne_eq_false_iff_eq.mpr c3
   clear c3
   simp only [Option.some.injEq,Prod.mk.injEq] at H
   obtain ⟨rfl,rfl,rfl,rfl,rfl⟩:=H
   go_enter Tryz.func43,Tryz.ntmps43
   go_wp2
   refine bodyPost_ret (results_list (rs:=[.tmp 2,.tmp 3,.tmp 4,.tmp 5,.tmp 6]) rfl (by simp) (.tmp (.tmp (.tmp (.tmp (.tmp .nil)))))) rfl ?_
   exact ⟨by first | rfl | (simp; done) | (simp [*]; done),by repeat (first | exact Drawn0.refl _ | apply Drawn0.step)⟩
  ·rw [if_neg c3] at H
   have c3b0 : (a0 == 2) = false:=beq_eq_false_iff_ne.mpr c3
   have c3b1 : (a0 != 2) = true:=bne_iff_ne.mpr c3
   by_cases c4 : a0 = 3
   ·rw [if_pos c4] at H
    have c4b0 : (a0 == 3) = true:=beq_iff_eq.mpr c4
    have c4b1 : (a0 != 3) = false:=bne_eq_false_iff_eq.mpr c4
    clear c4
    simp only [Option.some.injEq,Prod.mk.injEq] at H
    obtain ⟨rfl,rfl,rfl,rfl,rfl⟩:=H
    go_enter Tryz.func43,Tryz.ntmps43
    go_wp2
    refine bodyPost_ret (results_list (rs:=[.tmp 2,.tmp 3,.tmp 4,.tmp 5,.tmp 6]) rfl (by simp) (.tmp (.tmp (.tmp (.tmp (.tmp .nil)))))) rfl ?_
    exact ⟨by first | rfl | (simp; done) | (simp [*]; done),by repeat (first | exact Drawn0.refl _ | apply Drawn0.step)⟩
   ·rw [if_neg c4] at H
    have c4b0 : (a0 == 3) = false:=beq_eq_false_iff_ne.mpr c4
    have c4b1 : (a0 != 3) = true:=bne_iff_ne.mpr c4
    by_cases c5 : a0 = 4
    ·rw [if_pos c5] at H
     have c5b0 : (a0 == 4) = true:=beq_iff_eq.mpr c5
     have c5b1 : (a0 != 4) = false:=bne_eq_false_iff_eq.mpr c5
     clear c5
     simp only [Option.some.injEq,Prod.mk.injEq] at H
     obtain ⟨rfl,rfl,rfl,rfl,rfl⟩:=H
     go_enter Tryz.func43,Tryz.ntmps43
     go_wp2
     refine bodyPost_ret (results_list (rs:=[.tmp 2,.tmp 3,.tmp 4,.tmp 5,.tmp 6]) rfl (by simp) (.tmp (.tmp (.tmp (.tmp (.tmp .nil)))))) rfl ?_
     exact ⟨by first | rfl | (simp; done) | (simp [*]; done),by repeat (first | exact Drawn0.refl _ | apply Drawn0.step)⟩
    ·rw [if_neg c5] at H
     have c5b0 : (a0 == 4) = false:=beq_eq_false_iff_ne.mpr c5
     have c5b1 : (a0 != 4) = true:=bne_iff_ne.mpr c5
     by_cases c6 : a0 = 5
     ·rw [if_pos c6] at H
      have c6b0 : (a0 == 5) = true:=beq_iff_eq.mpr c6
      have c6b1 : (a0 != 5) = false:=bne_eq_false_iff_eq.mpr c6
      clear c6
      simp only [Option.some.injEq,Prod.mk.injEq] at H
      obtain ⟨rfl,rfl,rfl,rfl,rfl⟩:=H
      go_enter Tryz.func43,Tryz.ntmps43
      go_wp2
      refine bodyPost_ret (results_list (rs:=[.tmp 2,.tmp 3,.tmp 4,.tmp 5,.tmp 6]) rfl (by simp) (.tmp (.tmp (.tmp (.tmp (.tmp .nil)))))) rfl ?_
      exact ⟨by first | rfl | (simp; done) | (simp [*]; done),by repeat (first | exact Drawn0.refl _ | apply Drawn0.step)⟩
     ·rw [if_neg c6] at H
      have c6b0 : (a0 == 5) = false:=beq_eq_false_iff_ne.mpr c6
      have c6b1 : (a0 != 5) = true:=bne_iff_ne.mpr c6
      by_cases c7 : a0 = 6
      ·rw [if_pos c7] at H
       have c7b0 : (a0 == 6) = true:=beq_iff_eq.mpr c7
       have c7b1 : (a0 != 6) = false:=bne_eq_false_iff_eq.mpr c7
       clear c7
       simp only [Option.some.injEq,Prod.mk.injEq] at H
       obtain ⟨rfl,rfl,rfl,rfl,rfl⟩:=H
       go_enter Tryz.func43,Tryz.ntmps43
       go_wp2
       refine bodyPost_ret (results_list (rs:=[.tmp 2,.tmp 3,.tmp 4,.tmp 5,.tmp 6]) rfl (by simp) (.tmp (.tmp (.tmp (.tmp (.tmp .nil)))))) rfl ?_
       exact ⟨by first | rfl | (simp; done) | (simp [*]; done),by repeat (first | exact Drawn0.refl _ | apply Drawn0.step)⟩
      ·rw [if_neg c7] at H
       have c7b0 : (a0 == 6) = false:=beq_eq_false_iff_ne.mpr c7
       have c7b1 : (a0 != 6) = true:=bne_iff_ne.mpr c7
       simp only [Option.some.injEq,Prod.mk.injEq] at H
       obtain ⟨rfl,rfl,rfl,rfl,rfl⟩:=H
       go_enter Tryz.func43,Tryz.ntmps43
       go_wp2
       refine bodyPost_ret (results_list (rs:=[.tmp 2,.tmp 3,.tmp 4,.tmp 5,.tmp 6]) rfl (by simp) (.tmp (.tmp (.tmp (.tmp (.tmp .nil)))))) rfl ?_
       exact ⟨by first | rfl | (simp; done) | (simp [*]; done),by repeat (first | exact Drawn0.refl _ | apply Drawn0.step)⟩
end Go.Proofs.YtdbpglhdicmhhaaGreatDoor.GA
end

section
namespace Go.Proofs.YtdbpglhdicmhhaaGreatDoor.GA
open Go.RowKit Go.Proofs.YtdbpglhdicmhhaaGreatDoorW.PrintWords Go.Proofs.YtdbpglhdicmhhaaGreatDoorW.PrintLast Go.Proofs.YtdbpglhdicmhhaaGreatDoorW.PrintMore
def rotaref06_fits.f (a0 : Int) (a1 : Bool) : Option (Bool):=if a0 = 0 then (some true) else (if a1 = true then (if a0 > 0 then (some (decide (a0 < 16))) else (some false)) else (some false))
set_option maxHeartbeats 8000000 in
set_option maxRecDepth 100000 in
theorem rotaref06_fits.calls (a0 : Int) (a1 : Bool) (r : Bool) (w : World) (h : rotaref06_fits.f a0 a1 = some r) :
  Calls Tryz.prog 84 #[.int .i64 a0,.bool a1] w fun e w' => e = .returned (.bool r) ∧ Drawn0 w w':=by
 have H : (if a0 = 0 then (some true) else (if a1 = true then (if a0 > 0 then (some (decide (a0 < 16))) else (some false)) else (some false))) = some r:=h
 clear h
 by_cases c3 : a0 = 0
 ·rw [if_pos c3] at H
  have c3b0 : (a0 == 0) = true:=beq_iff_eq.mpr c3
  have c3b1 : (a0 != 0) = false:=bne_eq_false_iff_eq.mpr c3
  clear c3
  obtain rfl:=Option.some.inj H
  go_enter Tryz.func84,Tryz.ntmps84
  go_wp2
  go_ret
  exact ⟨by first | rfl | (simp; done) | (simp [*]; done),by repeat (first | exact Drawn0.refl _ | apply Drawn0.step)⟩
 ·rw [if_neg c3] at H
  have c3b0 : (a0 == 0) = false:=beq_eq_false_iff_ne.mpr c3
  have c3b1 : (a0 != 0) = true:=bne_iff_ne.mpr c3
  by_cases c4 : a1 = true
  ·subst c4
   have H1 : (if a0 > 0 then (some (decide (a0 < 16))) else (some false)) = some r:=by rw [if_pos rfl] at H; exact H
   clear H
   have H:=H1
   clear H1
   by_cases c5 : a0 > 0
   ·rw [if_pos c5] at H
    have c5b0 : decide (0 < a0) = true:=decide_eq_true c5
    clear c5
    obtain rfl:=Option.some.inj H
    go_enter Tryz.func84,Tryz.ntmps84
    go_wp2
    go_ret
    exact ⟨by first | rfl | (simp; done) | (simp [*]; done),by repeat (first | exact Drawn0.refl _ | apply Drawn0.step)⟩
   ·rw [if_neg c5] at H
    have c5b0 : decide (0 < a0) = false:=decide_eq_false c5
    clear c5
    obtain rfl:=Option.some.inj H
    go_enter Tryz.func84,Tryz.ntmps84
    go_wp2
    go_ret
    exact ⟨by first | rfl | (simp; done) | (simp [*]; done),by repeat (first | exact Drawn0.refl _ | apply Drawn0.step)⟩
  ·replace c4:=Bool.eq_false_iff.mpr c4
   subst c4
   have H1 : (some false) = some r:=by rw [if_neg (show ¬ (false = true) by decide)] at H; exact H
   clear H
   have H:=H1
   clear H1
   obtain rfl:=Option.some.inj H
   go_enter Tryz.func84,Tryz.ntmps84
   go_wp2
   go_ret
   exact ⟨by first | rfl | (simp; done) | (simp [*]; done),by repeat (first | exact Drawn0.refl _ | apply Drawn0.step)⟩
end Go.Proofs.YtdbpglhdicmhhaaGreatDoor.GA
end

section
namespace Go.Proofs.YtdbpglhdicmhhaaGreatDoor.GA
open Go.RowKit Go.Proofs.YtdbpglhdicmhhaaGreatDoorW.PrintWords Go.Proofs.YtdbpglhdicmhhaaGreatDoorW.PrintLast Go.Proofs.YtdbpglhdicmhhaaGreatDoorW.PrintMore
end Go.Proofs.YtdbpglhdicmhhaaGreatDoor.GA
end

section
namespace Go.Proofs.YtdbpglhdicmhhaaGreatDoor.GA
open Go.RowKit Go.Proofs.YtdbpglhdicmhhaaGreatDoorW.PrintWords Go.Proofs.YtdbpglhdicmhhaaGreatDoorW.PrintLast Go.Proofs.YtdbpglhdicmhhaaGreatDoorW.PrintMore
end Go.Proofs.YtdbpglhdicmhhaaGreatDoor.GA
end

section
namespace Go.Proofs.YtdbpglhdicmhhaaGreatDoor.Q
open Go.RowKit Go.Proofs.YtdbpglhdicmhhaaGreatDoor.GA Go.Proofs.YtdbpglhdicmhhaaGreatDoor.Hfits Go.Proofs.YtdbpglhdicmhhaaGreatDoor.Hfind
def star (s : ByteArray) : ByteArray:=if s.data.toList = [97,108,108] then ⟨#[42]⟩ else s
theorem find_at (k : Nat) (hk : k < 58) : word_find.f ((k : Int) + 1) = some ((Hfind.rowAt k).1,(Hfind.rowAt k).2.1,(Hfind.rowAt k).2.2.1,(Hfind.rowAt k).2.2.2.1,(Hfind.rowAt k).2.2.2.2,0):=by
 unfold word_find.f
 rw [if_pos (by omega),show ((k : Int) + 1 - 1).toNat = k from by omega]
theorem find_else (n : Int) (h : ¬ (1 ≤ n ∧ n ≤ 58)) : word_find.f n = some (⟨#[]⟩,0,0,⟨#[]⟩,⟨#[]⟩,60):=by
 unfold word_find.f
 rw [if_neg h]
theorem in_or (n : Int) : (∃ k : Nat,k < 58 ∧ n = (k : Int) + 1) ∨ ¬ (1 ≤ n ∧ n ≤ 58):=by
 by_cases h : 1 ≤ n ∧ n ≤ 58
 ·exact .inl ⟨(n - 1).toNat,by omega,by omega⟩
 ·exact .inr h
def nameOf (k : Nat) : List UInt8:=(Hfind.rowAt k).1.data.toList
theorem names_all : ((List.range 58).all fun i => (List.range 58).all fun j => (nameOf i == nameOf j) == (i == j)) = true:=by kernel_rfl
theorem names_eq {i j : Nat} (hi : i < 58) (hj : j < 58) : (nameOf i == nameOf j) = (i == j):=by
 have:=List.all_eq_true.1 (List.all_eq_true.1 names_all i (List.mem_range.2 hi)) j (List.mem_range.2 hj)
 simpa using this
theorem costs_all : ((List.range 58).all fun i => decide (1 ≤ (Hfind.rowAt i).2.2.1 ∧ (Hfind.rowAt i).2.2.1 ≤ 8 ∧ 0 ≤ (Hfind.rowAt i).2.1 ∧ (Hfind.rowAt i).2.1 ≤ 6)) = true:=by kernel_rfl
theorem cost_at {i : Nat} (hi : i < 58) : 1 ≤ (Hfind.rowAt i).2.2.1 ∧ (Hfind.rowAt i).2.2.1 ≤ 8 ∧ 0 ≤ (Hfind.rowAt i).2.1 ∧ (Hfind.rowAt i).2.1 ≤ 6:=by
 simpa using List.all_eq_true.1 costs_all i (List.mem_range.2 hi)
theorem toNat_ofInt32 (a : Nat) (h : a < 4294967296) : (BitVec.ofInt 32 (a : Int)).toNat = a:=by
 rw [BitVec.ofInt_natCast,BitVec.toNat_ofNat]; exact Nat.mod_eq_of_lt (by omega)
theorem wrap_u32 (a : Nat) (h : a < 4294967296) : IntKind.u32.wrap (a : Int) = a:=by
 simp only [IntKind.wrap,IntKind.bits,IntKind.signed,Bool.false_and]
 simp; omega
theorem or_nat (a b : Nat) (ha : a < 4294967296) (hb : b < 4294967296) : Go.bits .or .u32 (a : Int) (b : Int) = ((a ||| b : Nat) : Int):=by
 have hx : a ||| b < 2 ^ 32:=Nat.or_lt_two_pow (by omega) (by omega)
 show IntKind.u32.wrap ((BitVec.ofInt 32 (a : Int) ||| BitVec.ofInt 32 (b : Int)).toNat : Int) = _
 rw [BitVec.toNat_or,toNat_ofInt32 a ha,toNat_ofInt32 b hb,wrap_u32 _ (by omega)]
theorem and_nat (a b : Nat) (ha : a < 4294967296) (hb : b < 4294967296) : Go.bits .and .u32 (a : Int) (b : Int) = ((a &&& b : Nat) : Int):=by
 have hx : a &&& b < 2 ^ 32:=Nat.and_lt_two_pow _ (by omega)
 show IntKind.u32.wrap ((BitVec.ofInt 32 (a : Int) &&& BitVec.ofInt 32 (b : Int)).toNat : Int) = _
 rw [BitVec.toNat_and,toNat_ofInt32 a ha,toNat_ofInt32 b hb,wrap_u32 _ (by omega)]
theorem or_add (i : Nat) (x y : Int) (hx : 0 ≤ x) (hd : x % ((2 ^ i : Nat) : Int) = 0) (hy : 0 ≤ y) (hy2 : y < ((2 ^ i : Nat) : Int)) (hs : x + y < 4294967296) : Go.bits .or .u32 x y = x + y:=by
 obtain ⟨a,rfl⟩:=Int.eq_ofNat_of_zero_le hx
 obtain ⟨b,rfl⟩:=Int.eq_ofNat_of_zero_le hy
 have h1 : a % 2 ^ i = 0:=by exact_mod_cast hd
 have h2 : b < 2 ^ i:=by exact_mod_cast hy2
 have h3 : a = 2 ^ i * (a / 2 ^ i):=by have:=Nat.div_add_mod a (2 ^ i); omega
 rw [or_nat a b (by omega) (by omega)]
 have:=Nat.two_pow_add_eq_or_of_lt h2 (a / 2 ^ i)
 rw [← h3] at this
 omega
theorem and_mod (i : Nat) (x : Int) (hi : i ≤ 31) (hx : 0 ≤ x) (hs : x < 4294967296) : Go.bits .and .u32 x (((2 ^ i - 1 : Nat)) : Int) = x % ((2 ^ i : Nat) : Int):=by
 obtain ⟨a,rfl⟩:=Int.eq_ofNat_of_zero_le hx
 have hp : 2 ^ i ≤ 2 ^ 31:=Nat.pow_le_pow_right (by omega) hi
 rw [and_nat a (2 ^ i - 1) (by omega) (by omega),Nat.and_two_pow_sub_one_eq_mod]
 simp
theorem and_15 (x : Int) (hx : 0 ≤ x) (hs : x < 4294967296) : Go.bits .and .u32 x 15 = x % 16:=and_mod 4 x (by omega) hx hs
theorem and_65535 (x : Int) (hx : 0 ≤ x) (hs : x < 4294967296) : Go.bits .and .u32 x 65535 = x % 65536:=and_mod 16 x (by omega) hx hs
theorem and_65520 (x : Int) (hx : 0 ≤ x) (hs : x < 4294967296) : Go.bits .and .u32 x 65520 = x % 65536 - x % 16:=by
 obtain ⟨a,rfl⟩:=Int.eq_ofNat_of_zero_le hx
 have h0 : Go.bits .and .u32 (a : Int) ((65520 : Nat) : Int) = _:=and_nat a 65520 (by omega) (by omega)
 have h1 : a &&& 65520 = (a % 65536) - a % 16:=by
  have e : a &&& 65535 = a % 65536:=Nat.and_two_pow_sub_one_eq_mod a 16
  have e2 : a &&& 15 = a % 16:=Nat.and_two_pow_sub_one_eq_mod a 4
  have e3 : (a &&& 65520) + (a &&& 15) = a &&& 65535:=by
   have hb : (65535 : Nat) = 65520 ||| 15:=by decide
   rw [hb,Nat.and_or_distrib_left]
   have hdvd : a &&& 65520 = 2 ^ 4 * ((a &&& 65520) / 2 ^ 4):=by
    have : (a &&& 65520) % 2 ^ 4 = 0:=by
     rw [← Nat.and_two_pow_sub_one_eq_mod,Nat.and_assoc]
     simp
    omega
   have hlt : a &&& 15 < 2 ^ 4:=Nat.and_lt_two_pow _ (by omega)
   have:=Nat.two_pow_add_eq_or_of_lt hlt ((a &&& 65520) / 2 ^ 4)
   rw [← hdvd] at this
   exact this
  omega
 rw [show ((65520 : Nat) : Int) = 65520 from rfl] at h0
 rw [h0,h1]
 omega
def enc (o a b c m : Int) : Int:=o * 16777216 + a * 1048576 + b * 65536 + m % 65536 + c
theorem fits_bd {a b c m s : Int} (h : fitsB a b c m s = true) : 0 ≤ a ∧ a < 16 ∧ 0 ≤ b ∧ b < 16 ∧ 0 ≤ c ∧ c < 16 ∧ (c = 0 ∨ m = 0) ∧ -32768 ≤ m ∧ m < 65536:=by
 unfold fitsB reg at h
 split at h
 ·simp at h; omega
 ·split at h
  ·simp at h; omega
  ·split at h
   ·simp at h; omega
   ·split at h
    ·simp at h; omega
    ·simp at h; omega
theorem wrap_u16 (m : Int) : IntKind.u16.wrap m % 4294967296 = m % 65536:=by
 simp only [IntKind.wrap,IntKind.bits,IntKind.signed,Bool.false_and]
 simp; omega
theorem encode_yes (k : Nat) (hk : k < 58) (a b c m : Int) (h : fitsB a b c m (Hfind.rowAt k).2.1 = true) : word_Encode.f ((k : Int) + 1) a b c m = some (enc ((k : Int) + 1) a b c m,0):=by
 obtain ⟨h1,h2,h3,h4,h5,h6,h7,h8,h9⟩:=fits_bd h
 unfold word_Encode.f word_fits.f
 rw [find_at k hk]
 simp only [Option.bind_some,if_true,h]
 rw [wrap_u16]
 rw [show ((k : Int) + 1) % 4294967296 * 16777216 % 4294967296 = ((k : Int) + 1) * 16777216 from by omega,
  show a % 4294967296 * 1048576 % 4294967296 = a * 1048576 from by omega,show b % 4294967296 * 65536 % 4294967296 = b * 65536 from by omega,show c % 4294967296 = c from by omega]
 rw [or_add 24 (((k : Int) + 1) * 16777216) (a * 1048576) (by omega) (by first | (simp; done) | (simp; omega)) (by omega) (by first | (simp; done) | (simp; omega)) (by omega)]
 rw [or_add 20 (((k : Int) + 1) * 16777216 + a * 1048576) (b * 65536) (by omega) (by first | (simp; done) | (simp; omega)) (by omega) (by first | (simp; done) | (simp; omega)) (by omega)]
 rw [or_add 16 (((k : Int) + 1) * 16777216 + a * 1048576 + b * 65536) (m % 65536) (by omega) (by simp; omega) (by omega) (by simp; omega) (by omega)]
 have : Go.bits .or .u32 (((k : Int) + 1) * 16777216 + a * 1048576 + b * 65536 + m % 65536) c = ((k : Int) + 1) * 16777216 + a * 1048576 + b * 65536 + m % 65536 + c:=by
  rcases h7 with rfl | rfl
  ·exact or_add 0 _ _ (by omega) (by first | (simp; done) | (simp; omega)) (by omega) (by simp) (by omega)
  ·exact or_add 4 _ _ (by omega) (by simp; omega) (by omega) (by simp; omega) (by omega)
 rw [this]
 rfl
def dA (w : Int) : Int:=w / 1048576 % 16
def dB (w : Int) : Int:=w / 65536 % 16
def dC (w s : Int) : Int:=if s = 3 then w % 16 else 0
def dM (w s : Int) : Int:=if s = 6 then (if 32768 ≤ w % 65536 then w % 65536 - 65536 else w % 65536) else if s = 3 then w % 65536 - w % 16 else w % 65536
theorem wrap_i16 (w : Int) : IntKind.i16.wrap w = if 32768 ≤ w % 65536 then w % 65536 - 65536 else w % 65536:=by
 simp only [IntKind.wrap,IntKind.bits,IntKind.signed]
 simp
theorem word_decode (k : Nat) (hk : k < 58) (w : Int) (h0 : 0 ≤ w) (h1 : w < 4294967296) (ho : w / 16777216 = (k : Int) + 1) :
  word_Decode.f w = some (if fitsB (dA w) (dB w) (dC w (Hfind.rowAt k).2.1) (dM w (Hfind.rowAt k).2.1) (Hfind.rowAt k).2.1 = true then ((k : Int) + 1,dA w,dB w,dC w (Hfind.rowAt k).2.1,dM w (Hfind.rowAt k).2.1,0) else (0,0,0,0,0,61)):=by
 unfold word_Decode.f word_fits.f
 have hw : wrap64 (w / 16777216) = (k : Int) + 1:=by rw [ho]; unfold wrap64; omega
 rw [hw,find_at k hk]
 rw [and_15 (w / 1048576) (by omega) (by omega),and_15 (w / 65536) (by omega) (by omega),and_15 w h0 h1,and_65535 w h0 h1,and_65520 w h0 h1,wrap_i16]
 generalize (Hfind.rowAt k).2.1 = s
 have e1 : wrap64 (w / 1048576 % 16) = dA w:=by unfold wrap64 dA; omega
 have e2 : wrap64 (w / 65536 % 16) = dB w:=by unfold wrap64 dB; omega
 have e3 : wrap64 (w % 16) = w % 16:=by unfold wrap64; omega
 have e4 : wrap64 (w % 65536 - w % 16) = w % 65536 - w % 16:=by unfold wrap64; omega
 have e5 : wrap64 (w % 65536) = w % 65536:=by unfold wrap64; omega
 have e6 : wrap64 (if 32768 ≤ w % 65536 then w % 65536 - 65536 else w % 65536) = (if 32768 ≤ w % 65536 then w % 65536 - 65536 else w % 65536):=by split <;> (unfold wrap64; omega)
 simp only [Option.bind_some,if_true,e1,e2,e3,e4,e5,e6]
 by_cases s6 : s = 6
 ·subst s6
  simp only [dC,dM]
  simp
  repeat' split
  all_goals rfl
 ·by_cases s3 : s = 3
  ·subst s3
   simp only [dC,dM]
   simp
   repeat' split
   all_goals rfl
  ·rw [if_neg s6,if_neg s3]
   simp only [dC,dM,s6,s3,if_false]
   repeat' split
   all_goals rfl
theorem decode_else (w : Int) (h0 : 0 ≤ w) (h1 : w < 4294967296) (h : ¬ (1 ≤ w / 16777216 ∧ w / 16777216 ≤ 58)) : word_Decode.f w = some (0,0,0,0,0,60):=by
 unfold word_Decode.f
 have hw : wrap64 (w / 16777216) = w / 16777216:=by unfold wrap64; omega
 rw [hw,find_else _ h]
 simp
end Go.Proofs.YtdbpglhdicmhhaaGreatDoor.Q
end
