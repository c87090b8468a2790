import Derived.Test.YtdbpglhdicmhhaaGreatDoorMLi6
import Derived.Lib.ItoaMem
import Derived.Lib.ItoaLen
import Derived.Lib.AtoiAll
import Derived.Lib.ParseIntB
import Derived.Lib.SplitLaws
set_option linter.unusedVariables false
set_option linter.unusedSimpArgs false
section
namespace Go.Proofs.YtdbpglhdicmhhaaGreatDoor.GA
open Go.RowKit Go.Proofs.YtdbpglhdicmhhaaGreatDoorW.PrintWords Go.Proofs.YtdbpglhdicmhhaaGreatDoorW.PrintLast Go.Proofs.YtdbpglhdicmhhaaGreatDoorW.PrintMore
def rotaref07_decimal.f : Nat → Int → Option (ByteArray)
 | 0,_ => none
 | k + 1,a0 => if a0 < 0 then ((rotaref07_decimal.f k (wrap64 (-a0))).bind fun t500 => (if 1 + t500.size ≤ 9223372036854775807 then (some ((⟨#[45]⟩ : ByteArray) ++ t500)) else (none))) else (if a0 < 10 then (some (strOfNums (([(wrap64 (48 + a0)) % 256] : List Int)))) else ((rotaref07_decimal.f k (wrap64 (Int.tdiv a0 10))).bind fun t504 => ((some (([(wrap64 (48 + (Int.tmod a0 10))) % 256] : List Int) : List Int)).bind fun y505 => (if t504.size + (strOfNums y505).size ≤ 9223372036854775807 then (some (t504 ++ (strOfNums y505))) else (none)))))
theorem rotaref07_decimal.mono_l : ∀ k,(∀ y0,LeO (rotaref07_decimal.f k y0) (rotaref07_decimal.f (k + 1) y0))
 | 0 => fun _ r h => by simp [rotaref07_decimal.f] at h
 | k + 1 => by
  have ih0:=rotaref07_decimal.mono_l k
  ·intro y0
   unfold rotaref07_decimal.f
   repeat' first
   | (with_reducible exact ih0 _)
   | (with_reducible exact LeO.refl _)
   | (with_reducible exact LeO.none _)
   | (with_reducible refine LeO.ite ?_ ?_)
   | (with_reducible refine LeO.bind ?_ (fun _ => ?_))
   | exact ih0 _
   | exact LeO.none _
   | refine LeO.ite ?_ ?_
   | refine LeO.bind ?_ (fun _ => ?_)
theorem rotaref07_decimal.mono : ∀ a0 k,LeO (rotaref07_decimal.f k a0) (rotaref07_decimal.f (k + 1) a0):=by
 intro a0 k
 have ih0:=rotaref07_decimal.mono_l k
 exact ih0 a0
def rotaref07_decimal.T5 : Bool × List (List Nat × List Nat):=(true,[([],[]),([0],[0]),([1],[1]),([],[]),([3],[3]),([4],[4]),([5],[5]),([6],[6]),([7],[7]),([2,8],[2,8]),([9,2,0,1,2,3,4,5,6,7,8,9],[9])])
def rotaref07_decimal.B5 : List Nat:=[0,1,3,0,8,24,56,120,248,511,1023]
theorem rotaref07_decimal.tab5 : rtab .any (opsOf Tryz.f44 5) = rotaref07_decimal.T5:=by kernel_rfl
theorem rotaref07_decimal.bits5 : waitsOk rotaref07_decimal.T5.2 rotaref07_decimal.B5 = true:=by kernel_rfl
set_option maxHeartbeats 8000000 in
set_option maxRecDepth 100000 in
theorem rotaref07_decimal.calls (k : Nat) : ∀ (a0 : Int) (r : ByteArray) (w : World) (h : rotaref07_decimal.f k a0 = some r),
  Calls Tryz.prog 44 #[.int .i64 a0] w fun e w' => e = .returned (.string r) ∧ Below w.heap.size w w':=by
 induction k using Nat.strongRecOn with
 | _ k ih =>
 intro a0 r w h
 cases k with
 | zero => exact absurd h (by simp [rotaref07_decimal.f])
 | succ k =>
 simp only [rotaref07_decimal.f] at h
 have HB:=Aside0.mk (Below.refl w.heap.size w)
 have H : (if a0 < 0 then ((rotaref07_decimal.f k (wrap64 (-a0))).bind fun t500 => (if 1 + t500.size ≤ 9223372036854775807 then (some ((⟨#[45]⟩ : ByteArray) ++ t500)) else (none))) else (if a0 < 10 then (some (strOfNums (([(wrap64 (48 + a0)) % 256] : List Int)))) else ((rotaref07_decimal.f k (wrap64 (Int.tdiv a0 10))).bind fun t504 => ((some (([(wrap64 (48 + (Int.tmod a0 10))) % 256] : List Int) : List Int)).bind fun y505 => (if t504.size + (strOfNums y505).size ≤ 9223372036854775807 then (some (t504 ++ (strOfNums y505))) else (none)))))) = some r:=h
 clear h
 by_cases c2 : a0 < 0
 ·rw [if_pos c2] at H
  have c2b0 : decide (a0 < 0) = true:=decide_eq_true c2
  clear c2
  replace H:=Option.bind_eq_some_iff.mp H
  obtain ⟨t500,A30,H⟩:=H
  replace H : (if 1 + t500.size ≤ 9223372036854775807 then (some ((⟨#[45]⟩ : ByteArray) ++ t500)) else (none)) = some r:=H
  have A3:=Aside0.mk A30
  clear A30
  by_cases c4 : 1 + t500.size ≤ 9223372036854775807
  ·rw [if_pos c4] at H
   have c4b0:=eq_true c4
   have c4b1 : decide (1 + t500.size ≤ 9223372036854775807) = true:=decide_eq_true c4
   try have c4b2 : (9223372036854775807 < 1 + t500.size) = False:=eq_false (Nat.not_lt.2 c4)
   obtain rfl:=Option.some.inj H
   go_enter Tryz.func44,Tryz.ntmps44
   go_wp2_with (first | ((with_reducible refine gate_callee (f:=44) rfl ?_); refine goesL_ (some 7) rfl rfl Tryz.func44 (by kernel_rfl) rfl #[.int .i64 (wrap64 (-a0))] rfl (by (try simp only [List.map_toArray,List.map_cons,List.map_nil]); first | done | rfl | (simp only [List.length_drop,List.length_take]; rfl)) ?_; (with_reducible refine (ih k (by omega) (wrap64 (-a0)) t500 _ A3.out).mono ?_); rintro e w5 ⟨rfl,hb⟩; refine ⟨_,rfl,?_⟩; have n0_:=Aside0.mk (below_step (by repeat (first | (with_reducible first | exact HB.out | apply below_alloc | apply pw_below_drewN | apply below_drew1) | exact HB.out)) hb); clear HB; have HB:=n0_; clear n0_; (try clear hb); (try clear hb2); (try clear hk); (try clear hi)))
   go_ret
   exact ⟨by first | rfl | (simp [errW_none,errW_some] <;> rfl) | (simp [*,errW_none,errW_some] <;> rfl),by repeat (first | (with_reducible first | exact HB.out | apply below_alloc | apply pw_below_drewN | apply below_drew1) | exact HB.out)⟩
  ·rw [if_neg c4] at H
   exact absurd H (by simp)
 ·rw [if_neg c2] at H
  have c2b0 : decide (a0 < 0) = false:=decide_eq_false c2
  clear c2
  by_cases c6 : a0 < 10
  ·rw [if_pos c6] at H
   have c6b0 : decide (a0 < 10) = true:=decide_eq_true c6
   clear c6
   obtain ⟨y501,hy501⟩ : ∃ y_ : List Int,y_ = (([(wrap64 (48 + a0)) % 256] : List Int)):=⟨_,rfl⟩
   replace H : (some (strOfNums y501)) = some r:=by first | (rw [hy501]; with_reducible exact H) | (have H2_:=(Option.bind_some _ _).symm.trans H; rw [hy501]; with_reducible exact H2_) | (have H2_:=(Option.bind_some _ _).symm.trans H; with_reducible exact H2_) | with_reducible exact H | (rw [hy501]; exact H) | exact H
   have Ny501:=Aside0.mk hy501
   clear hy501
   obtain rfl:=Option.some.inj H
   go_enter Tryz.func44,Tryz.ntmps44
   go_wp2_with (first | ((with_reducible refine gate_dst (N:=14) rfl ?_); refine Kd.R_lit (Kd.int .u8) _ 5 ?hg (N:=14) ?hd (xs:=([(wrap64 (48 + a0)) % 256] : List Int)) (inner:=[.int .u8 ((wrap64 (48 + a0)) % 256)]) (ok:=fun _ => True) (okp:=fun _ => True) ?hr ?hp (fun _ hk => hk) trivial (Below.refl _ _) (Nat.le_refl _) (by simp) ?_; (case hd => rfl); (case hg => rfl); (case hr => first | (go_simp; done) | (go_simp; rfl)); (case hp => exact (Reps.one (show Kd.M (Kd.int .u8) _ _ _ ((wrap64 (48 + a0)) % 256) [.int .u8 ((wrap64 (48 + a0)) % 256)] from rfl) (Reps.none _ _))); intro v502 w7 ho8 hb hg_ hnew_; clear hg_ hnew_; (first | rw [← Ny501.out] at ho8 | (simp only [Int.reduceToNat] at ho8; rw [← Ny501.out] at ho8)); have n0_:=Aside0.mk (Kd.R_lower ho8 (below_size (by repeat (first | (with_reducible first | exact HB.out | apply below_alloc | apply pw_below_drewN | apply below_drew1) | exact HB.out)))); have n1_:=Aside0.mk (below_step (by repeat (first | (with_reducible first | exact HB.out | apply below_alloc | apply pw_below_drewN | apply below_drew1) | exact HB.out)) hb); clear HB; have HO503:=n0_; have HB:=n1_; clear n0_ n1_; clear hb ho8; have hcv9:=own_string (P:=Tryz.prog) Tryz.underlying87 Tryz.underlying5 Tryz.underlying9 (Kd.own_of_R HO503.out)))
   go_ret
   exact ⟨by first | rfl | (simp [errW_none,errW_some] <;> rfl) | (simp [*,errW_none,errW_some] <;> rfl),by repeat (first | (with_reducible first | exact HB.out | apply below_alloc | apply pw_below_drewN | apply below_drew1) | exact HB.out)⟩
  ·rw [if_neg c6] at H
   have c6b0 : decide (a0 < 10) = false:=decide_eq_false c6
   clear c6
   replace H:=Option.bind_eq_some_iff.mp H
   obtain ⟨t504,A100,H⟩:=H
   replace H : ((some (([(wrap64 (48 + (Int.tmod a0 10))) % 256] : List Int) : List Int)).bind fun y505 => (if t504.size + (strOfNums y505).size ≤ 9223372036854775807 then (some (t504 ++ (strOfNums y505))) else (none))) = some r:=H
   have A10:=Aside0.mk A100
   clear A100
   obtain ⟨y505,hy505⟩ : ∃ y_ : List Int,y_ = (([(wrap64 (48 + (Int.tmod a0 10))) % 256] : List Int)):=⟨_,rfl⟩
   replace H : (if t504.size + (strOfNums y505).size ≤ 9223372036854775807 then (some (t504 ++ (strOfNums y505))) else (none)) = some r:=by first | (rw [hy505]; with_reducible exact H) | (have H2_:=(Option.bind_some _ _).symm.trans H; rw [hy505]; with_reducible exact H2_) | (have H2_:=(Option.bind_some _ _).symm.trans H; with_reducible exact H2_) | with_reducible exact H | (rw [hy505]; exact H) | exact H
   have Ny505:=Aside0.mk hy505
   clear hy505
   by_cases c11 : t504.size + (strOfNums y505).size ≤ 9223372036854775807
   ·rw [if_pos c11] at H
    have c11b0:=eq_true c11
    have c11b1 : decide (t504.size + (strOfNums y505).size ≤ 9223372036854775807) = true:=decide_eq_true c11
    try have c11b2 : (9223372036854775807 < t504.size + (strOfNums y505).size) = False:=eq_false (Nat.not_lt.2 c11)
    obtain rfl:=Option.some.inj H
    go_enter Tryz.func44,Tryz.ntmps44
    try go_wp2
    have n0_:=Aside0.mk (below_drew1 HB.out)
    clear HB
    have HB:=n0_
    clear n0_
    refine start_ (n:=11) (S:=fun w' => True) (ds:=[]) #[false,false,false,false,false,false,false,false,false,false,false] (by kernel_rfl) rfl rfl trivial (fun hHeld => ?_); refine with_tabW rotaref07_decimal.tab5 rotaref07_decimal.bits5 (fun HT_ HW_ => ?_)
    generalize w.drew = w12 at HB hHeld ⊢
    refine pure_ (i:=0) (N:=some 16) (v:=?_) (a':=?_) #[true,false,false,false,false,false,false,false,false,false,false] rfl rfl (any_of HT_.out (by kernel_rfl)) (fun _ _ _ h => h) (Or.inl ⟨by rfl,?_⟩) ?_ ?_
    rotate_left
    ·intro w'
     go_simp
     with_reducible rfl
    rotate_left
    ·simp only [Act.put,sAz,sCz,sCs,i64_w,i32_w]
     rfl
    refine pure_ (i:=1) (N:=some 17) (v:=?_) (a':=?_) #[true,true,false,false,false,false,false,false,false,false,false] rfl rfl (any_of HT_.out (by kernel_rfl)) (fun _ _ _ h => h) (Or.inl ⟨by rfl,?_⟩) ?_ ?_
    rotate_left
    ·intro w'
     go_simp
     with_reducible rfl
    rotate_left
    ·simp only [Act.put,sAz,sCz,sCs,i64_w,i32_w]
     rfl
    refine pure_ (i:=3) (N:=some 19) (v:=?_) (a':=?_) #[true,true,false,true,false,false,false,false,false,false,false] rfl rfl (any_of HT_.out (by kernel_rfl)) (fun _ _ _ h => h) (Or.inl ⟨by rfl,?_⟩) ?_ ?_
    rotate_left
    ·intro w'
     go_simp
     with_reducible rfl
    rotate_left
    ·simp only [Act.put,sAz,sCz,sCs,i64_w,i32_w]
     rfl
    refine pure_ (i:=4) (N:=some 20) (v:=?_) (a':=?_) #[true,true,false,true,true,false,false,false,false,false,false] rfl rfl (any_of HT_.out (by kernel_rfl)) (fun _ _ _ h => h) (Or.inl ⟨by rfl,?_⟩) ?_ ?_
    rotate_left
    ·intro w'
     go_simp
     with_reducible rfl
    rotate_left
    ·simp only [Act.put,sAz,sCz,sCs,i64_w,i32_w]
     rfl
    refine pure_ (i:=5) (N:=some 21) (v:=?_) (a':=?_) #[true,true,false,true,true,true,false,false,false,false,false] rfl rfl (any_of HT_.out (by kernel_rfl)) (fun _ _ _ h => h) (Or.inl ⟨by rfl,?_⟩) ?_ ?_
    rotate_left
    ·intro w'
     go_simp
     with_reducible rfl
    rotate_left
    ·simp only [Act.put,sAz,sCz,sCs,i64_w,i32_w]
     rfl
    refine pure_ (i:=6) (N:=some 22) (v:=?_) (a':=?_) #[true,true,false,true,true,true,true,false,false,false,false] rfl rfl (any_of HT_.out (by kernel_rfl)) (fun _ _ _ h => h) (Or.inl ⟨by rfl,?_⟩) ?_ ?_
    rotate_left
    ·intro w'
     go_simp
     with_reducible rfl
    rotate_left
    ·simp only [Act.put,sAz,sCz,sCs,i64_w,i32_w]
     rfl
    refine join_ (σ:=Value) 2 #[true,true,true,true,true,true,true,true,true,false,false] (fun s_ => [(18,.string t504),(23,s_),(24,.string (strOfNums y505))]) (fun s_ w' => (Kd.R (Kd.int .u8) 5 w' w.heap.size (fun _ => True) s_ y505) ∧ (Below w.heap.size w w')) ?_ ?_
    rotate_left
    ·intro hCont
     refine two_ (i:=2) (j:=7) (Ni:=some 18) (Nj:=some 23) #[true,true,true,true,true,true,true,false,false,false,false] #[true,true,false,true,true,true,true,true,false,false,false] rfl rfl rfl rfl (two_of HT_.out (by kernel_rfl)) (by decide) (by decide) (fun K hK => ?_) (fun K hK => ?_)
     ·skip
      refine goes_ Tryz.func44 (by kernel_rfl) rfl #[.int .i64 (wrap64 (Int.tdiv a0 10))] (by rfl) rfl rfl (by (try simp only [List.map_toArray,List.map_cons,List.map_nil]); first | done | rfl | (simp only [List.length_drop,List.length_take]; rfl)) ?_
      with_reducible refine (ih k (by omega) (wrap64 (Int.tdiv a0 10)) t504 _ A10.out).mono ?_
      rintro e w13 ⟨rfl,hb⟩
      refine ⟨_,rfl,?_⟩
      have n0_:=Aside0.mk (below_step (by repeat (first | (with_reducible first | exact HB.out | apply below_alloc | apply pw_below_drewN | apply below_drew1) | exact HB.out)) hb)
      clear HB
      have HB:=n0_
      clear n0_
      (try clear hb)
      (try clear hb2)
      (try clear hk)
      (try clear hi)
      refine hK.out _ _ trivial (fun hHeld => ?_)
      clear hK K
      refine norm_ (a':=?_) ?_ ?_
      rotate_left
      ·show Act.put _ (some 18) _ = _
       simp only [Act.put,sAz,sCz,sCs,i64_w,i32_w]
       rfl
      refine one_ (i:=7) (N:=some 23) #[true,true,true,true,true,true,true,true,false,false,false] rfl rfl (one_of HT_.out (by kernel_rfl)) (by decide) (fun K hK => ?_)
      refine Kd.R_lit_step (Kd.int .u8) _ 5 ?hg (N:=23) ?hd (xs:=([(wrap64 (48 + (Int.tmod a0 10))) % 256] : List Int)) (inner:=[.int .u8 ((wrap64 (48 + (Int.tmod a0 10))) % 256)]) (ok:=fun _ => True) (okp:=fun _ => True) ?hr ?hp (fun _ hk => hk) trivial (Below.refl _ _) (Nat.le_refl _) (by simp) ?_; (case hd => rfl); (case hg => rfl); (case hr => first | (go_simp; done) | (go_simp; rfl)); (case hp => exact (Reps.one (show Kd.M (Kd.int .u8) _ _ _ ((wrap64 (48 + (Int.tmod a0 10))) % 256) [.int .u8 ((wrap64 (48 + (Int.tmod a0 10))) % 256)] from rfl) (Reps.none _ _)))
      intro v506 w14 ho15 hb hg_ hnew_
      clear hg_ hnew_
      (first | rw [← Ny505.out] at ho15 | (simp only [Int.reduceToNat] at ho15; rw [← Ny505.out] at ho15))
      have n0_:=Aside0.mk (Kd.R_lower ho15 (below_size (by repeat (first | (with_reducible first | exact HB.out | apply below_alloc | apply pw_below_drewN | apply below_drew1) | exact HB.out))))
      have n1_:=Aside0.mk (below_step (by repeat (first | (with_reducible first | exact HB.out | apply below_alloc | apply pw_below_drewN | apply below_drew1) | exact HB.out)) hb)
      clear HB
      have HO507:=n0_
      have HB:=n1_
      clear n0_ n1_
      clear hb ho15
      refine hK.out _ _ trivial (fun hHeld => ?_)
      clear hK K
      refine norm_ (a':=?_) ?_ ?_
      rotate_left
      ·show Act.put _ (some 23) _ = _
       simp only [Act.put,sAz,sCz,sCs,i64_w,i32_w]
       rfl
      refine one_ (i:=8) (N:=some 24) #[true,true,true,true,true,true,true,true,true,false,false] rfl rfl (one_of HT_.out (by kernel_rfl)) (by decide) (fun K hK => ?_)
      have hcv16:=own_string (P:=Tryz.prog) Tryz.underlying87 Tryz.underlying5 Tryz.underlying9 (Kd.own_of_R HO507.out)
      refine value_ (w1:=?_) (v:=?_) (by rfl) rfl ?_ ?_
      rotate_left 2
      ·go_simp
       constructor
       ·rfl
       ·rfl
      clear hcv16
      refine hK.out _ _ trivial (fun hHeld => ?_)
      clear hK K
      refine norm_ (a':=?_) ?_ ?_
      rotate_left
      ·show Act.put _ (some 24) _ = _
       simp only [Act.put,sAz,sCz,sCs,i64_w,i32_w]
       rfl
      exact norm_ (by simp only [putAll,Act.put,sAz,sCz,sCs]) (hCont (v506) _ ⟨(by (with_reducible repeat (first | apply Kd.R_alloc | apply Kd.R_drewN | apply Kd.R_drew)); exact HO507.out),(by repeat (first | (with_reducible first | exact HB.out | apply below_alloc | apply pw_below_drewN | apply below_drew1) | exact HB.out))⟩)
     ·skip
      refine Kd.R_lit_step (Kd.int .u8) _ 5 ?hg (N:=23) ?hd (xs:=([(wrap64 (48 + (Int.tmod a0 10))) % 256] : List Int)) (inner:=[.int .u8 ((wrap64 (48 + (Int.tmod a0 10))) % 256)]) (ok:=fun _ => True) (okp:=fun _ => True) ?hr ?hp (fun _ hk => hk) trivial (Below.refl _ _) (Nat.le_refl _) (by simp) ?_; (case hd => rfl); (case hg => rfl); (case hr => first | (go_simp; done) | (go_simp; rfl)); (case hp => exact (Reps.one (show Kd.M (Kd.int .u8) _ _ _ ((wrap64 (48 + (Int.tmod a0 10))) % 256) [.int .u8 ((wrap64 (48 + (Int.tmod a0 10))) % 256)] from rfl) (Reps.none _ _)))
      intro v506 w13 ho14 hb hg_ hnew_
      clear hg_ hnew_
      (first | rw [← Ny505.out] at ho14 | (simp only [Int.reduceToNat] at ho14; rw [← Ny505.out] at ho14))
      have n0_:=Aside0.mk (Kd.R_lower ho14 (below_size (by repeat (first | (with_reducible first | exact HB.out | apply below_alloc | apply pw_below_drewN | apply below_drew1) | exact HB.out))))
      have n1_:=Aside0.mk (below_step (by repeat (first | (with_reducible first | exact HB.out | apply below_alloc | apply pw_below_drewN | apply below_drew1) | exact HB.out)) hb)
      clear HB
      have HO507:=n0_
      have HB:=n1_
      clear n0_ n1_
      clear hb ho14
      refine hK.out _ _ trivial (fun hHeld => ?_)
      clear hK K
      refine norm_ (a':=?_) ?_ ?_
      rotate_left
      ·show Act.put _ (some 23) _ = _
       simp only [Act.put,sAz,sCz,sCs,i64_w,i32_w]
       rfl
      refine two_ (i:=2) (j:=8) (Ni:=some 18) (Nj:=some 24) #[true,true,true,true,true,true,true,true,false,false,false] #[true,true,false,true,true,true,true,true,true,false,false] rfl rfl rfl rfl (two_of HT_.out (by kernel_rfl)) (by decide) (by decide) (fun K hK => ?_) (fun K hK => ?_)
      ·skip
       refine goes_ Tryz.func44 (by kernel_rfl) rfl #[.int .i64 (wrap64 (Int.tdiv a0 10))] (by rfl) rfl rfl (by (try simp only [List.map_toArray,List.map_cons,List.map_nil]); first | done | rfl | (simp only [List.length_drop,List.length_take]; rfl)) ?_
       with_reducible refine (ih k (by omega) (wrap64 (Int.tdiv a0 10)) t504 _ A10.out).mono ?_
       rintro e w15 ⟨rfl,hb⟩
       refine ⟨_,rfl,?_⟩
       have n0_:=Aside0.mk (Kd.R_below (by (with_reducible repeat (first | apply Kd.R_alloc | apply Kd.R_drewN | apply Kd.R_drew)); exact HO507.out) hb)
       have n1_:=Aside0.mk (below_step (by repeat (first | (with_reducible first | exact HB.out | apply below_alloc | apply pw_below_drewN | apply below_drew1) | exact HB.out)) hb)
       clear HO507
       clear HB
       have HO507:=n0_
       have HB:=n1_
       clear n0_ n1_
       (try clear hb)
       (try clear hb2)
       (try clear hk)
       (try clear hi)
       refine hK.out _ _ trivial (fun hHeld => ?_)
       clear hK K
       refine norm_ (a':=?_) ?_ ?_
       rotate_left
       ·show Act.put _ (some 18) _ = _
        simp only [Act.put,sAz,sCz,sCs,i64_w,i32_w]
        rfl
       refine one_ (i:=8) (N:=some 24) #[true,true,true,true,true,true,true,true,true,false,false] rfl rfl (one_of HT_.out (by kernel_rfl)) (by decide) (fun K hK => ?_)
       have hcv16:=own_string (P:=Tryz.prog) Tryz.underlying87 Tryz.underlying5 Tryz.underlying9 (Kd.own_of_R HO507.out)
       refine value_ (w1:=?_) (v:=?_) (by rfl) rfl ?_ ?_
       rotate_left 2
       ·go_simp
        constructor
        ·rfl
        ·rfl
       clear hcv16
       refine hK.out _ _ trivial (fun hHeld => ?_)
       clear hK K
       refine norm_ (a':=?_) ?_ ?_
       rotate_left
       ·show Act.put _ (some 24) _ = _
        simp only [Act.put,sAz,sCz,sCs,i64_w,i32_w]
        rfl
       exact norm_ (by simp only [putAll,Act.put,sAz,sCz,sCs]) (hCont (v506) _ ⟨(by (with_reducible repeat (first | apply Kd.R_alloc | apply Kd.R_drewN | apply Kd.R_drew)); exact HO507.out),(by repeat (first | (with_reducible first | exact HB.out | apply below_alloc | apply pw_below_drewN | apply below_drew1) | exact HB.out))⟩)
      ·skip
       have hcv15:=own_string (P:=Tryz.prog) Tryz.underlying87 Tryz.underlying5 Tryz.underlying9 (Kd.own_of_R HO507.out)
       refine value_ (w1:=?_) (v:=?_) (by rfl) rfl ?_ ?_
       rotate_left 2
       ·go_simp
        constructor
        ·rfl
        ·rfl
       clear hcv15
       refine hK.out _ _ trivial (fun hHeld => ?_)
       clear hK K
       refine norm_ (a':=?_) ?_ ?_
       rotate_left
       ·show Act.put _ (some 24) _ = _
        simp only [Act.put,sAz,sCz,sCs,i64_w,i32_w]
        rfl
       refine one_ (i:=2) (N:=some 18) #[true,true,true,true,true,true,true,true,true,false,false] rfl rfl (one_of HT_.out (by kernel_rfl)) (by decide) (fun K hK => ?_)
       refine goes_ Tryz.func44 (by kernel_rfl) rfl #[.int .i64 (wrap64 (Int.tdiv a0 10))] (by rfl) rfl rfl (by (try simp only [List.map_toArray,List.map_cons,List.map_nil]); first | done | rfl | (simp only [List.length_drop,List.length_take]; rfl)) ?_
       with_reducible refine (ih k (by omega) (wrap64 (Int.tdiv a0 10)) t504 _ A10.out).mono ?_
       rintro e w16 ⟨rfl,hb⟩
       refine ⟨_,rfl,?_⟩
       have n0_:=Aside0.mk (Kd.R_below (by (with_reducible repeat (first | apply Kd.R_alloc | apply Kd.R_drewN | apply Kd.R_drew)); exact HO507.out) hb)
       have n1_:=Aside0.mk (below_step (by repeat (first | (with_reducible first | exact HB.out | apply below_alloc | apply pw_below_drewN | apply below_drew1) | exact HB.out)) hb)
       clear HO507
       clear HB
       have HO507:=n0_
       have HB:=n1_
       clear n0_ n1_
       (try clear hb)
       (try clear hb2)
       (try clear hk)
       (try clear hi)
       refine hK.out _ _ trivial (fun hHeld => ?_)
       clear hK K
       refine norm_ (a':=?_) ?_ ?_
       rotate_left
       ·show Act.put _ (some 18) _ = _
        simp only [Act.put,sAz,sCz,sCs,i64_w,i32_w]
        rfl
       exact norm_ (by simp only [putAll,Act.put,sAz,sCz,sCs]) (hCont (v506) _ ⟨(by (with_reducible repeat (first | apply Kd.R_alloc | apply Kd.R_drewN | apply Kd.R_drew)); exact HO507.out),(by repeat (first | (with_reducible first | exact HB.out | apply below_alloc | apply pw_below_drewN | apply below_drew1) | exact HB.out))⟩)
    rintro v506 w17 ⟨h0_,h1_⟩
    have n0_ : Aside0 (Kd.R (Kd.int .u8) 5 w17 w.heap.size (fun _ => True) v506 y505):=⟨h0_⟩
    have n1_ : Aside0 (Below w.heap.size w w17):=⟨h1_⟩
    clear HB
    clear h0_ h1_
    have HO507:=n0_
    have HB:=n1_
    clear n0_ n1_
    have hHeld:=trivial
    refine norm_ (a':=?_) ?_ ?_
    rotate_left
    ·simp only [putAll,Act.put,sAz,sCz,sCs]
     rfl
    refine pure_ (i:=9) (N:=some 25) (v:=?_) (a':=?_) #[true,true,true,true,true,true,true,true,true,true,false] rfl rfl (any_of HT_.out (by kernel_rfl)) (fun _ _ _ h => h) (Or.inl ⟨by rfl,?_⟩) ?_ ?_
    rotate_left
    ·intro w'
     go_simp
     with_reducible rfl
    rotate_left
    ·simp only [Act.put,sAz,sCz,sCs,i64_w,i32_w]
     rfl
    refine pure_ (i:=10) (N:=some 2) (v:=?_) (a':=?_) #[true,true,true,true,true,true,true,true,true,true,true] rfl rfl (any_of HT_.out (by kernel_rfl)) (fun _ _ _ h => h) (Or.inl ⟨by rfl,?_⟩) ?_ ?_
    rotate_left
    ·intro w'
     go_simp
     with_reducible rfl
    rotate_left
    ·simp only [Act.put,sAz,sCz,sCs,i64_w,i32_w]
     rfl
    refine done_ (done_of HT_.out (by kernel_rfl)) ?_
    try go_wp2
    go_ret
    exact ⟨by first | rfl | (simp [errW_none,errW_some] <;> rfl) | (simp [*,errW_none,errW_some] <;> rfl),by repeat (first | (with_reducible first | exact HB.out | apply below_alloc | apply pw_below_drewN | apply below_drew1) | exact HB.out)⟩
   ·rw [if_neg c11] at H
    exact absurd H (by simp)
end Go.Proofs.YtdbpglhdicmhhaaGreatDoor.GA
end

section
namespace Go.Proofs.YtdbpglhdicmhhaaGreatDoor.GA
open Go.RowKit Go.Proofs.YtdbpglhdicmhhaaGreatDoorW.PrintWords Go.Proofs.YtdbpglhdicmhhaaGreatDoorW.PrintLast Go.Proofs.YtdbpglhdicmhhaaGreatDoorW.PrintMore
mutual
def rotaref07_ahead.j0 : Nat → Int → Bool → Option (ByteArray)
 | 0,_,_ => none
 | k + 1,x3,x4 => if x4 = true then (some (⟨#[76]⟩ : ByteArray)) else (if x3 = 20 then (rotaref07_ahead.j1 k x3 (x3 == 20)) else (rotaref07_ahead.j1 k x3 (x3 == 22)))
def rotaref07_ahead.j1 : Nat → Int → Bool → Option (ByteArray)
 | 0,_,_ => none
 | k + 1,x3,x8 => if x8 = true then (some (⟨#[102]⟩ : ByteArray)) else (if x3 = 34 then (some (⟨#[116]⟩ : ByteArray)) else (some (⟨#[]⟩ : ByteArray)))
end
def rotaref07_ahead.f (k : Nat) (a0 : Int) : Option (ByteArray):=if a0 = 17 then (rotaref07_ahead.j0 k a0 (a0 == 17)) else (if a0 = 18 then (rotaref07_ahead.j0 k a0 (a0 == 18)) else (rotaref07_ahead.j0 k a0 (a0 == 19)))
theorem rotaref07_ahead.mono_l : ∀ k,(∀ y0 y1,LeO (rotaref07_ahead.j0 k y0 y1) (rotaref07_ahead.j0 (k + 1) y0 y1)) ∧ (∀ y0 y1,LeO (rotaref07_ahead.j1 k y0 y1) (rotaref07_ahead.j1 (k + 1) y0 y1))
 | 0 => ⟨fun _ _ r h => by simp [rotaref07_ahead.j0] at h,fun _ _ r h => by simp [rotaref07_ahead.j1] at h⟩
 | k + 1 => by
  obtain ⟨ih0,ih1⟩:=rotaref07_ahead.mono_l k
  refine ⟨?_,?_⟩
  ·intro y0 y1
   unfold rotaref07_ahead.j0
   repeat' first
   | (with_reducible exact ih0 _ _)
   | (with_reducible exact ih1 _ _)
   | (with_reducible exact LeO.refl _)
   | (with_reducible exact LeO.none _)
   | (with_reducible refine LeO.ite ?_ ?_)
   | (with_reducible refine LeO.bind ?_ (fun _ => ?_))
   | exact ih0 _ _
   | exact ih1 _ _
   | exact LeO.none _
   | refine LeO.ite ?_ ?_
   | refine LeO.bind ?_ (fun _ => ?_)
  ·intro y0 y1
   unfold rotaref07_ahead.j1
   repeat' first
   | (with_reducible exact ih0 _ _)
   | (with_reducible exact ih1 _ _)
   | (with_reducible exact LeO.refl _)
   | (with_reducible exact LeO.none _)
   | (with_reducible refine LeO.ite ?_ ?_)
   | (with_reducible refine LeO.bind ?_ (fun _ => ?_))
   | exact ih0 _ _
   | exact ih1 _ _
   | exact LeO.none _
   | refine LeO.ite ?_ ?_
   | refine LeO.bind ?_ (fun _ => ?_)
theorem rotaref07_ahead.mono : ∀ a0 k,LeO (rotaref07_ahead.f k a0) (rotaref07_ahead.f (k + 1) a0):=by
 intro a0 k
 obtain ⟨ih0,ih1⟩:=rotaref07_ahead.mono_l k
 unfold rotaref07_ahead.f
 repeat' first
   | (with_reducible exact ih0 _ _)
   | (with_reducible exact ih1 _ _)
   | (with_reducible exact LeO.refl _)
   | (with_reducible exact LeO.none _)
   | (with_reducible refine LeO.ite ?_ ?_)
   | (with_reducible refine LeO.bind ?_ (fun _ => ?_))
   | exact ih0 _ _
   | exact ih1 _ _
   | exact LeO.none _
   | refine LeO.ite ?_ ?_
   | refine LeO.bind ?_ (fun _ => ?_)
set_option maxHeartbeats 8000000 in
set_option maxRecDepth 100000 in
theorem rotaref07_ahead.calls (k : Nat) (a0 : Int) (r : ByteArray) (w : World) (h : rotaref07_ahead.f k a0 = some r) :
  Calls Tryz.prog 45 #[.int .i64 a0] w fun e w' => e = .returned (.string r) ∧ Drawn0 w w':=by
 have H : (if a0 = 17 then (rotaref07_ahead.j0 k a0 (a0 == 17)) else (if a0 = 18 then (rotaref07_ahead.j0 k a0 (a0 == 18)) else (rotaref07_ahead.j0 k a0 (a0 == 19)))) = some r:=h
 clear h
 have HC2:=Aside0.mk H
 clear H
 go_enter Tryz.func45,Tryz.ntmps45
 go_upto_if 4 with (fail)
 go_cut [4] (fun v4 wc => ∃ (kq : Nat) (x4_1 : Bool),v4 = .bool x4_1 ∧ Aside0 (rotaref07_ahead.j0 kq a0 x4_1 = some r) ∧ Aside0 (kq ≤ k) ∧ Drawn0 w wc)
 case first =>
  have H:=HC2.out
  clear HC2
  by_cases c3 : a0 = 17
  ·rw [if_pos c3] at H
   have c3b0 : (a0 == 17) = true:=beq_iff_eq.mpr c3
   have c3b1 : (a0 != 17) = false:=bne_eq_false_iff_eq.mpr c3
   clear c3
   (first | rw [c3b0] | (simp only [i64_w,i32_w]; rw [c3b0]) | skip)
   have H':=Aside0.mk H
   clear H
   go_wp2
   go_meet
   case rel => exact ⟨_,((a0 == 17)),(by first | rfl | (simp; done) | (simp [*]; done)),H',⟨by first | omega | exact Nat.le_refl _⟩,by repeat (first | exact Drawn0.refl _ | apply Drawn0.step)⟩
  ·rw [if_neg c3] at H
   have c3b0 : (a0 == 17) = false:=beq_eq_false_iff_ne.mpr c3
   have c3b1 : (a0 != 17) = true:=bne_iff_ne.mpr c3
   (first | rw [c3b0] | (simp only [i64_w,i32_w]; rw [c3b0]) | skip)
   by_cases c4 : a0 = 18
   ·rw [if_pos c4] at H
    have c4b0 : (a0 == 18) = true:=beq_iff_eq.mpr c4
    have c4b1 : (a0 != 18) = false:=bne_eq_false_iff_eq.mpr c4
    clear c4
    have H':=Aside0.mk H
    clear H
    go_wp2
    go_meet
    case rel => exact ⟨_,((a0 == 18)),(by first | rfl | (simp; done) | (simp [*]; done)),H',⟨by first | omega | exact Nat.le_refl _⟩,by repeat (first | exact Drawn0.refl _ | apply Drawn0.step)⟩
   ·rw [if_neg c4] at H
    have c4b0 : (a0 == 18) = false:=beq_eq_false_iff_ne.mpr c4
    have c4b1 : (a0 != 18) = true:=bne_iff_ne.mpr c4
    have H':=Aside0.mk H
    clear H
    go_wp2
    go_meet
    case rel => exact ⟨_,((a0 == 19)),(by first | rfl | (simp; done) | (simp [*]; done)),H',⟨by first | omega | exact Nat.le_refl _⟩,by repeat (first | exact Drawn0.refl _ | apply Drawn0.step)⟩
 case rest =>
  clear HC2
  try clear p2
  try clear c3
  try clear c3b0
  try clear c3b1
  try clear c4
  try clear c4b0
  try clear c4b1
  obtain ⟨kq,x4_1,rfl,HA,HJ1,⟨mc1,rfl⟩⟩:=hcut
  cases kq with
  | zero => exact absurd HA.out (by simp [rotaref07_ahead.j0])
  | succ kj1 =>
   have H:=HA.out
   clear HA
   simp only [rotaref07_ahead.j0] at H
   by_cases c5 : x4_1 = true
   ·subst c5
    have H1 : (some (⟨#[76]⟩ : ByteArray)) = some r:=by rw [if_pos rfl] at H; exact H
    clear H
    have H:=H1
    clear H1
    obtain rfl:=Option.some.inj H
    go_wp2
    go_ret
    exact ⟨by first | rfl | (simp; done) | (simp [*]; done),by repeat (first | exact Drawn0.refl _ | apply Drawn0.step)⟩
   ·replace c5:=Bool.eq_false_iff.mpr c5
    subst c5
    have H1 : (if a0 = 20 then (rotaref07_ahead.j1 kj1 a0 (a0 == 20)) else (rotaref07_ahead.j1 kj1 a0 (a0 == 22))) = some r:=by rw [if_neg (show ¬ (false = true) by decide)] at H; exact H
    clear H
    have H:=H1
    clear H1
    have HC6:=Aside0.mk H
    clear H
    go_upto_if 8 with (fail)
    go_cut [8] (fun v8 wc => ∃ (kq : Nat) (x8_5 : Bool),v8 = .bool x8_5 ∧ Aside0 (rotaref07_ahead.j1 kq a0 x8_5 = some r) ∧ Aside0 (kq ≤ kj1) ∧ Drawn0 w wc)
    case first =>
     have H:=HC6.out
     clear HC6
     by_cases c7 : a0 = 20
     ·rw [if_pos c7] at H
      have c7b0 : (a0 == 20) = true:=beq_iff_eq.mpr c7
      have c7b1 : (a0 != 20) = false:=bne_eq_false_iff_eq.mpr c7
      clear c7
      (first | rw [c7b0] | (simp only [i64_w,i32_w]; rw [c7b0]) | skip)
      have H':=Aside0.mk H
      clear H
      go_wp2
      go_meet
      case rel => exact ⟨_,((a0 == 20)),(by first | rfl | (simp; done) | (simp [*]; done)),H',⟨by have:=HJ1.out; first | omega | exact Nat.le_refl _⟩,by repeat (first | exact Drawn0.refl _ | apply Drawn0.step)⟩
     ·rw [if_neg c7] at H
      have c7b0 : (a0 == 20) = false:=beq_eq_false_iff_ne.mpr c7
      have c7b1 : (a0 != 20) = true:=bne_iff_ne.mpr c7
      (first | rw [c7b0] | (simp only [i64_w,i32_w]; rw [c7b0]) | skip)
      have H':=Aside0.mk H
      clear H
      go_wp2
      go_meet
      case rel => exact ⟨_,((a0 == 22)),(by first | rfl | (simp; done) | (simp [*]; done)),H',⟨by have:=HJ1.out; first | omega | exact Nat.le_refl _⟩,by repeat (first | exact Drawn0.refl _ | apply Drawn0.step)⟩
    case rest =>
     clear HC6
     try clear c1
     try clear p2
     try clear c3
     try clear c3b0
     try clear c3b1
     try clear c4
     try clear c4b0
     try clear c4b1
     try clear c5
     try clear c7
     try clear c7b0
     try clear c7b1
     try clear p2
     obtain ⟨kq,x8_5,rfl,HA,HJ5,⟨mc5,rfl⟩⟩:=hcut
     cases kq with
     | zero => exact absurd HA.out (by simp [rotaref07_ahead.j1])
     | succ kj5 =>
      have H:=HA.out
      clear HA
      simp only [rotaref07_ahead.j1] at H
      by_cases c8 : x8_5 = true
      ·subst c8
       have H1 : (some (⟨#[102]⟩ : ByteArray)) = some r:=by rw [if_pos rfl] at H; exact H
       clear H
       have H:=H1
       clear H1
       obtain rfl:=Option.some.inj H
       go_wp2
       go_ret
       exact ⟨by first | rfl | (simp; done) | (simp [*]; done),by repeat (first | exact Drawn0.refl _ | apply Drawn0.step)⟩
      ·replace c8:=Bool.eq_false_iff.mpr c8
       subst c8
       have H1 : (if a0 = 34 then (some (⟨#[116]⟩ : ByteArray)) else (some (⟨#[]⟩ : ByteArray))) = some r:=by rw [if_neg (show ¬ (false = true) by decide)] at H; exact H
       clear H
       have H:=H1
       clear H1
       by_cases c9 : a0 = 34
       ·rw [if_pos c9] at H
        have c9b0 : (a0 == 34) = true:=beq_iff_eq.mpr c9
        have c9b1 : (a0 != 34) = false:=bne_eq_false_iff_eq.mpr c9
        clear c9
        obtain rfl:=Option.some.inj H
        go_wp2
        go_ret
        exact ⟨by first | rfl | (simp; done) | (simp [*]; done),by repeat (first | exact Drawn0.refl _ | apply Drawn0.step)⟩
       ·rw [if_neg c9] at H
        have c9b0 : (a0 == 34) = false:=beq_eq_false_iff_ne.mpr c9
        have c9b1 : (a0 != 34) = true:=bne_iff_ne.mpr c9
        obtain rfl:=Option.some.inj H
        go_wp2
        go_ret
        exact ⟨by first | rfl | (simp; done) | (simp [*]; done),by repeat (first | exact Drawn0.refl _ | apply Drawn0.step)⟩
end Go.Proofs.YtdbpglhdicmhhaaGreatDoor.GA
end

section
namespace Go.Proofs.YtdbpglhdicmhhaaGreatDoor.Num
open Go.Lib
theorem dec_step {u : Nat} (h : ¬ u < 10) : decDigits u = decDigits (u / 10) ++ [UInt8.ofNat (48 + u % 10)]:=by conv => lhs; rw [decDigits,dif_neg h]
@[irreducible] def dstep (acc : Nat) (b : UInt8) : Nat:=acc * 10 + (b.toNat - 48)
def dfold (acc : Nat) (l : List UInt8) : Nat:=l.foldl dstep acc
theorem dfold_nil (acc : Nat) : dfold acc [] = acc:=rfl
theorem dfold_cons (acc : Nat) (b : UInt8) (r : List UInt8) : dfold acc (b :: r) = dfold (dstep acc b) r:=by unfold dfold; rw [List.foldl_cons]
end Go.Proofs.YtdbpglhdicmhhaaGreatDoor.Num
end
