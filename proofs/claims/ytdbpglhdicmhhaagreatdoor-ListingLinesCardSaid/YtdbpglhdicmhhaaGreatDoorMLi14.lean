import Derived.Test.YtdbpglhdicmhhaaGreatDoorMLi6
set_option linter.unusedVariables false
set_option linter.unusedSimpArgs false
section
namespace Go.Proofs.YtdbpglhdicmhhaaGreatDoor.GA
open Go.RowKit Go.Proofs.YtdbpglhdicmhhaaGreatDoorW.PrintWords Go.Proofs.YtdbpglhdicmhhaaGreatDoorW.PrintLast Go.Proofs.YtdbpglhdicmhhaaGreatDoorW.PrintMore
mutual
def rotalaw07_twin.l0 : Nat → Int → List Int → List (S41) → List (S44) → List Int → Option (List Int × (List (S41)) × (List (S44)))
 | 0,_,_,_,_,_ => none
 | k + 1,x4,x472000,x472001,x472002,x474000 => if x4 < (x472000.length : Int) then (if 0 ≤ x4 then (if x474000.length < 35184372088832 then (rotalaw07_twin.l0 k (wrap64 (x4 + 1)) x472000 x472001 x472002 (x474000 ++ [rd x472000 x4])) else (none)) else (none)) else (rotalaw07_twin.l1 k 0 x472000 x472001 x472002 x474000 ([] : List (S41)))
def rotalaw07_twin.l1 : Nat → Int → List Int → List (S41) → List (S44) → List Int → List (S41) → Option (List Int × (List (S41)) × (List (S44)))
 | 0,_,_,_,_,_,_ => none
 | k + 1,x5,x472000,x472001,x472002,x474000,x474001 => if x5 < (x472001.length : Int) then (if 0 ≤ x5 then (if x474001.length < 8796093022208 then (rotalaw07_twin.l1 k (wrap64 (x5 + 1)) x472000 x472001 x472002 x474000 (x474001 ++ [(⟨(rd_T41 x472001 x5).f0,(rd_T41 x472001 x5).f1⟩ : S41)])) else (none)) else (none)) else (rotalaw07_twin.l2 k 0 x472000 x472001 x472002 x474000 x474001 ([] : List (S44)))
def rotalaw07_twin.l2 : Nat → Int → List Int → List (S41) → List (S44) → List Int → List (S41) → List (S44) → Option (List Int × (List (S41)) × (List (S44)))
 | 0,_,_,_,_,_,_,_ => none
 | k + 1,x6,x472000,x472001,x472002,x474000,x474001,x474002 => if x6 < (x472002.length : Int) then (if 0 ≤ x6 then (rotalaw07_twin.l3 k x6 0 x472000 x472001 x472002 x474000 x474001 x474002 ([] : List (S46)) ((rd_T44 x472002 x6).f1)) else (none)) else (some (x474000,x474001,x474002))
def rotalaw07_twin.l3 : Nat → Int → Int → List Int → List (S41) → List (S44) → List Int → List (S41) → List (S44) → List (S46) → Bool → Option (List Int × (List (S41)) × (List (S44)))
 | 0,_,_,_,_,_,_,_,_,_,_ => none
 | k + 1,x6,x8,x472000,x472001,x472002,x474000,x474001,x474002,x484000,x484001 => if 0 ≤ x6 then (if x6 < (x472002.length : Int) then (if x8 < (((rd_T44 x472002 x6).f0).length : Int) then (if 0 ≤ x8 then (if x484000.length < 4398046511104 then (rotalaw07_twin.l3 k x6 (wrap64 (x8 + 1)) x472000 x472001 x472002 x474000 x474001 x474002 (x484000 ++ [(⟨(rd_T46 ((rd_T44 x472002 x6).f0) x8).f0,(rd_T46 ((rd_T44 x472002 x6).f0) x8).f1,(rd_T46 ((rd_T44 x472002 x6).f0) x8).f2,(rd_T46 ((rd_T44 x472002 x6).f0) x8).f3⟩ : S46)]) x484001) else (none)) else (none)) else (if x474002.length < 4398046511104 then (rotalaw07_twin.l2 k (wrap64 (x6 + 1)) x472000 x472001 x472002 x474000 x474001 (x474002 ++ [(⟨x484000,x484001⟩ : S44)])) else (none))) else (none)) else (none)
end
def rotalaw07_twin.f (k : Nat) (l0_0 : List Int) (l0_1 : List (S41)) (l0_2 : List (S44)) : Option (List Int × (List (S41)) × (List (S44))):=rotalaw07_twin.l0 k 0 l0_0 l0_1 l0_2 ([] : List Int)
theorem rotalaw07_twin.mono_l : ∀ k,(∀ y0 y1 y2 y3 y4,LeO (rotalaw07_twin.l0 k y0 y1 y2 y3 y4) (rotalaw07_twin.l0 (k + 1) y0 y1 y2 y3 y4)) ∧ (∀ y0 y1 y2 y3 y4 y5,LeO (rotalaw07_twin.l1 k y0 y1 y2 y3 y4 y5) (rotalaw07_twin.l1 (k + 1) y0 y1 y2 y3 y4 y5)) ∧ (∀ y0 y1 y2 y3 y4 y5 y6,LeO (rotalaw07_twin.l2 k y0 y1 y2 y3 y4 y5 y6) (rotalaw07_twin.l2 (k + 1) y0 y1 y2 y3 y4 y5 y6)) ∧ (∀ y0 y1 y2 y3 y4 y5 y6 y7 y8 y9,LeO (rotalaw07_twin.l3 k y0 y1 y2 y3 y4 y5 y6 y7 y8 y9) (rotalaw07_twin.l3 (k + 1) y0 y1 y2 y3 y4 y5 y6 y7 y8 y9))
 | 0 => ⟨fun _ _ _ _ _ r h => by simp [rotalaw07_twin.l0] at h,fun _ _ _ _ _ _ r h => by simp [rotalaw07_twin.l1] at h,fun _ _ _ _ _ _ _ r h => by simp [rotalaw07_twin.l2] at h,fun _ _ _ _ _ _ _ _ _ _ r h => by simp [rotalaw07_twin.l3] at h⟩
 | k + 1 => by
  obtain ⟨ih0,ih1,ih2,ih3⟩:=rotalaw07_twin.mono_l k
  refine ⟨?_,?_,?_,?_⟩
  ·intro y0 y1 y2 y3 y4
   unfold rotalaw07_twin.l0
   repeat' first
   | (with_reducible exact ih0 _ _ _ _ _)
   | (with_reducible exact ih1 _ _ _ _ _ _)
   | (with_reducible exact ih2 _ _ _ _ _ _ _)
   | (with_reducible exact ih3 _ _ _ _ _ _ _ _ _ _)
   | (with_reducible exact LeO.refl _)
   | (with_reducible exact LeO.none _)
   | (with_reducible refine LeO.ite ?_ ?_)
   | (with_reducible refine LeO.bind ?_ (fun _ => ?_))
   | exact ih0 _ _ _ _ _
   | exact ih1 _ _ _ _ _ _
   | exact ih2 _ _ _ _ _ _ _
   | exact ih3 _ _ _ _ _ _ _ _ _ _
   | exact LeO.none _
   | refine LeO.ite ?_ ?_
   | refine LeO.bind ?_ (fun _ => ?_)
  ·intro y0 y1 y2 y3 y4 y5
   unfold rotalaw07_twin.l1
   repeat' first
   | (with_reducible exact ih0 _ _ _ _ _)
   | (with_reducible exact ih1 _ _ _ _ _ _)
   | (with_reducible exact ih2 _ _ _ _ _ _ _)
   | (with_reducible exact ih3 _ _ _ _ _ _ _ _ _ _)
   | (with_reducible exact LeO.refl _)
   | (with_reducible exact LeO.none _)
   | (with_reducible refine LeO.ite ?_ ?_)
   | (with_reducible refine LeO.bind ?_ (fun _ => ?_))
   | exact ih0 _ _ _ _ _
   | exact ih1 _ _ _ _ _ _
   | exact ih2 _ _ _ _ _ _ _
   | exact ih3 _ _ _ _ _ _ _ _ _ _
   | exact LeO.none _
   | refine LeO.ite ?_ ?_
   | refine LeO.bind ?_ (fun _ => ?_)
  ·intro y0 y1 y2 y3 y4 y5 y6
   unfold rotalaw07_twin.l2
   repeat' first
   | (with_reducible exact ih0 _ _ _ _ _)
   | (with_reducible exact ih1 _ _ _ _ _ _)
   | (with_reducible exact ih2 _ _ _ _ _ _ _)
   | (with_reducible exact ih3 _ _ _ _ _ _ _ _ _ _)
   | (with_reducible exact LeO.refl _)
   | (with_reducible exact LeO.none _)
   | (with_reducible refine LeO.ite ?_ ?_)
   | (with_reducible refine LeO.bind ?_ (fun _ => ?_))
   | exact ih0 _ _ _ _ _
   | exact ih1 _ _ _ _ _ _
   | exact ih2 _ _ _ _ _ _ _
   | exact ih3 _ _ _ _ _ _ _ _ _ _
   | exact LeO.none _
   | refine LeO.ite ?_ ?_
   | refine LeO.bind ?_ (fun _ => ?_)
  ·intro y0 y1 y2 y3 y4 y5 y6 y7 y8 y9
   unfold rotalaw07_twin.l3
   repeat' first
   | (with_reducible exact ih0 _ _ _ _ _)
   | (with_reducible exact ih1 _ _ _ _ _ _)
   | (with_reducible exact ih2 _ _ _ _ _ _ _)
   | (with_reducible exact ih3 _ _ _ _ _ _ _ _ _ _)
   | (with_reducible exact LeO.refl _)
   | (with_reducible exact LeO.none _)
   | (with_reducible refine LeO.ite ?_ ?_)
   | (with_reducible refine LeO.bind ?_ (fun _ => ?_))
   | exact ih0 _ _ _ _ _
   | exact ih1 _ _ _ _ _ _
   | exact ih2 _ _ _ _ _ _ _
   | exact ih3 _ _ _ _ _ _ _ _ _ _
   | exact LeO.none _
   | refine LeO.ite ?_ ?_
   | refine LeO.bind ?_ (fun _ => ?_)
theorem rotalaw07_twin.mono : ∀ a0 a1 a2 k,LeO (rotalaw07_twin.f k a0 a1 a2) (rotalaw07_twin.f (k + 1) a0 a1 a2):=by
 intro a0 a1 a2 k
 obtain ⟨ih0,ih1,ih2,ih3⟩:=rotalaw07_twin.mono_l k
 unfold rotalaw07_twin.f
 repeat' first
   | (with_reducible exact ih0 _ _ _ _ _)
   | (with_reducible exact ih1 _ _ _ _ _ _)
   | (with_reducible exact ih2 _ _ _ _ _ _ _)
   | (with_reducible exact ih3 _ _ _ _ _ _ _ _ _ _)
   | (with_reducible exact LeO.refl _)
   | (with_reducible exact LeO.none _)
   | (with_reducible refine LeO.ite ?_ ?_)
   | (with_reducible refine LeO.bind ?_ (fun _ => ?_))
   | exact ih0 _ _ _ _ _
   | exact ih1 _ _ _ _ _ _
   | exact ih2 _ _ _ _ _ _ _
   | exact ih3 _ _ _ _ _ _ _ _ _ _
   | exact LeO.none _
   | refine LeO.ite ?_ ?_
   | refine LeO.bind ?_ (fun _ => ?_)
def rotalaw07_twin.T5 : Bool × List (List Nat × List Nat):=(true,[([],[]),([0],[0]),([],[]),([2],[2]),([],[]),([3,4],[3,4]),([5],[5]),([6],[6]),([1,7],[1,7]),([0,1,2,3,4,5,6,7,8],[]),([9,8,8,0,1,2,3,4,5,6,7,8],[8,9])])
def rotalaw07_twin.B5 : List Nat:=[0,1,0,4,0,28,60,124,255,511,1023]
theorem rotalaw07_twin.tab5 : rtab .any (opsOf Tryz.f14 5) = rotalaw07_twin.T5:=by kernel_rfl
theorem rotalaw07_twin.bits5 : waitsOk rotalaw07_twin.T5.2 rotalaw07_twin.B5 = true:=by kernel_rfl
def rotalaw07_twin.T9 : Bool × List (List Nat × List Nat):=(true,[([],[]),([0],[0]),([],[]),([2],[2]),([],[]),([3,4],[3,4]),([5],[5]),([6],[6]),([1,7],[1,7]),([0,1,2,3,4,5,6,7,8],[]),([9,8,8,0,1,2,3,4,5,6,7,8],[8,9])])
def rotalaw07_twin.B9 : List Nat:=[0,1,0,4,0,28,60,124,255,511,1023]
theorem rotalaw07_twin.tab9 : rtab .any (opsOf Tryz.f14 9) = rotalaw07_twin.T9:=by kernel_rfl
theorem rotalaw07_twin.bits9 : waitsOk rotalaw07_twin.T9.2 rotalaw07_twin.B9 = true:=by kernel_rfl
def rotalaw07_twin.T17 : Bool × List (List Nat × List Nat):=(true,[([],[]),([0],[0]),([],[]),([2],[2]),([],[]),([3,4],[3,4]),([5],[5]),([6],[6]),([],[]),([7,8],[7,8]),([9],[9]),([10],[10]),([1,11],[1,11]),([0,1,2,3,4,5,6,7,8,9,10,11,12],[]),([13,12,12,0,1,2,3,4,5,6,7,8,9,10,11,12],[12,13])])
def rotalaw07_twin.B17 : List Nat:=[0,1,0,4,0,28,60,124,0,508,1020,2044,4095,8191,16383]
theorem rotalaw07_twin.tab17 : rtab .any (opsOf Tryz.f14 17) = rotalaw07_twin.T17:=by kernel_rfl
theorem rotalaw07_twin.bits17 : waitsOk rotalaw07_twin.T17.2 rotalaw07_twin.B17 = true:=by kernel_rfl
set_option maxHeartbeats 8000000 in
set_option maxRecDepth 100000 in
theorem rotalaw07_twin.calls (k : Nat) (A0_0 : Option Addr) (c0_0 : Nat) (l0_0 : List Int) (A0_1 : Option Addr) (c0_1 : Nat) (l0_1 : List (S41)) (A0_2 : Option Addr) (c0_2 : Nat) (l0_2 : List (S44)) (r1 : List Int) (r2 : List (S41)) (r3 : List (S44)) (w : World) (hr0_0 : Kd.C (Kd.int .u32) w A0_0 l0_0.length l0_0) (hc0_0 : l0_0.length ≤ c0_0) (hr0_1 : Kd.C k41 w A0_1 l0_1.length l0_1) (hc0_1 : l0_1.length ≤ c0_1) (hr0_2 : Kd.C k44 w A0_2 l0_2.length l0_2) (hc0_2 : l0_2.length ≤ c0_2) (h : rotalaw07_twin.f k l0_0 l0_1 l0_2 = some (r1,r2,r3)) :
  Calls Tryz.prog 14 #[.agg #[.slice A0_0 l0_0.length c0_0,.slice A0_1 l0_1.length c0_1,.slice A0_2 l0_2.length c0_2]] w fun e w' => ∃ v0_ v1_ v2_ : Value,e = .returned (.agg #[v0_,v1_,v2_]) ∧ Kd.R (Kd.int .u32) 39 w' w.heap.size (fun _ => True) v0_ r1 ∧ Kd.R k41 41 w' w.heap.size (fun _ => True) v1_ r2 ∧ Kd.S k44 44 w' w.heap.size (fun _ => True) v2_ r3 ∧ Below w.heap.size w w':=by
 have hu26:=Tryz.underlying26
 have hu41:=Tryz.underlying41
 have hu44:=Tryz.underlying44
 have hu46:=Tryz.underlying46
 have HR0_0:=Aside0.mk hr0_0
 have HC0_0:=Aside0.mk hc0_0
 clear hr0_0 hc0_0
 have HR0_1:=Aside0.mk hr0_1
 have HC0_1:=Aside0.mk hc0_1
 clear hr0_1 hc0_1
 have HR0_2:=Aside0.mk hr0_2
 have HC0_2:=Aside0.mk hc0_2
 clear hr0_2 hc0_2
 have HB:=Aside0.mk (Below.refl w.heap.size w)
 have H : (rotalaw07_twin.l0 k 0 l0_0 l0_1 l0_2 ([] : List Int)) = some (r1,r2,r3):=h
 clear h
 have H':=Aside0.mk H
 clear H
 go_enter Tryz.func14,Tryz.ntmps14
 go_wp2_with (first | ((with_reducible refine gate_dst (N:=1) rfl ?_); refine box_event ?hg (N:=1) ?hd (cs:=#[.slice A0_0 l0_0.length c0_0,.slice A0_1 l0_1.length c0_1,.slice A0_2 l0_2.length c0_2]) (t:=26) ?hr ?_; (case hd => rfl); (case hg => rfl); (case hr => first | (go_simp; done) | (go_simp; rfl)); intro gb471 hg w2 hbox hb; have n0_:=Aside0.mk (below_step (by repeat (first | (with_reducible first | exact HB.out | apply below_alloc | apply pw_below_drewN | apply below_drew1) | exact HB.out)) hb); have n1_:=Aside0.mk (hbox); have n2_:=Aside0.mk ((by rw [hg]; exact (below_size (by repeat (first | (with_reducible first | exact HB.out | apply below_alloc | apply pw_below_drewN | apply below_drew1) | exact HB.out))) : w.heap.size ≤ gb471)); have n3_:=Aside0.mk ((by rw [hg]; exact (below_size (by repeat (first | (with_reducible first | exact HB.out | apply below_alloc | apply pw_below_drewN | apply below_drew1) | exact HB.out))) : w.heap.size ≤ gb471)); clear HB; have HB:=n0_; have BK471:=n1_; have GW471:=n2_; have GE471:=n3_; clear n0_ n1_ n2_ n3_; clear hb hbox hg) | ((with_reducible refine gate_dst (N:=2) rfl ?_); refine box_event ?hg (N:=2) ?hd (cs:=#[.slice none 0 0,.slice none 0 0,.slice none 0 0]) (t:=26) ?hr ?_; (case hd => rfl); (case hg => rfl); (case hr => first | (go_simp; done) | (go_simp; rfl)); intro gb472 hg w3 hbox hb; have n0_:=Aside0.mk (blk_below (g:=gb471) (o:=.cells #[.slice A0_0 l0_0.length c0_0,.slice A0_1 l0_1.length c0_1,.slice A0_2 l0_2.length c0_2] 26 (0,0)) (by (with_reducible repeat (first | refine blk_drewN ?_ _ | refine blk_drew ?_ | refine blk_alloc ?_ _)); exact BK471.out) hb); have n1_:=Aside0.mk (below_step (by repeat (first | (with_reducible first | exact HB.out | apply below_alloc | apply pw_below_drewN | apply below_drew1 | refine below_set ?_ GE471.out) | exact HB.out)) hb); have n2_:=Aside0.mk (hbox); have n3_:=Aside0.mk ((by rw [hg]; exact (below_size (by repeat (first | (with_reducible first | exact HB.out | apply below_alloc | apply pw_below_drewN | apply below_drew1 | refine below_set ?_ GE471.out) | exact HB.out))) : w.heap.size ≤ gb472)); have n4_:=Aside0.mk ((by rw [hg]; exact (below_size (by repeat (first | (with_reducible first | exact HB.out | apply below_alloc | apply pw_below_drewN | apply below_drew1 | refine below_set ?_ GE471.out) | exact HB.out))) : w.heap.size ≤ gb472)); have n5_:=Aside0.mk ((by rw [hg]; exact Nat.ne_of_lt (blk_lt (g:=gb471) (o:=.cells #[.slice A0_0 l0_0.length c0_0,.slice A0_1 l0_1.length c0_1,.slice A0_2 l0_2.length c0_2] 26 (0,0)) (by (with_reducible repeat (first | refine blk_drewN ?_ _ | refine blk_drew ?_ | refine blk_alloc ?_ _)); exact BK471.out)) : gb471 ≠ gb472)); have n6_:=Aside0.mk ((by rw [hg]; exact Nat.ne_of_gt (blk_lt (g:=gb471) (o:=.cells #[.slice A0_0 l0_0.length c0_0,.slice A0_1 l0_1.length c0_1,.slice A0_2 l0_2.length c0_2] 26 (0,0)) (by (with_reducible repeat (first | refine blk_drewN ?_ _ | refine blk_drew ?_ | refine blk_alloc ?_ _)); exact BK471.out)) : gb472 ≠ gb471)); clear BK471; clear HB; have BK471:=n0_; have HB:=n1_; have BK472:=n2_; have GW472:=n3_; have GE472:=n4_; have NB471_472:=n5_; have NB472_471:=n6_; clear n0_ n1_ n2_ n3_ n4_ n5_ n6_; clear hb hbox hg) | ((with_reducible refine gate_dst (N:=3) rfl ?_); refine box_event ?hg (N:=3) ?hd (cs:=#[.slice none 0 0,.slice none 0 0,.slice none 0 0]) (t:=26) ?hr ?_; (case hd => rfl); (case hg => rfl); (case hr => first | (go_simp; done) | (go_simp; rfl)); intro gb473 hg w4 hbox hb; have n0_:=Aside0.mk (blk_below (g:=gb471) (o:=.cells #[.slice A0_0 l0_0.length c0_0,.slice A0_1 l0_1.length c0_1,.slice A0_2 l0_2.length c0_2] 26 (0,0)) (by (with_reducible repeat (first | refine blk_drewN ?_ _ | refine blk_drew ?_ | refine blk_alloc ?_ _)); exact BK471.out) hb); have n1_:=Aside0.mk (blk_below (g:=gb472) (o:=.cells #[.slice none 0 0,.slice none 0 0,.slice none 0 0] 26 (0,0)) (by (with_reducible repeat (first | refine blk_drewN ?_ _ | refine blk_drew ?_ | refine blk_alloc ?_ _)); exact BK472.out) hb); have n2_:=Aside0.mk (below_step (by repeat (first | (with_reducible first | exact HB.out | apply below_alloc | apply pw_below_drewN | apply below_drew1 | refine below_set ?_ GE471.out | refine below_set ?_ GE472.out) | exact HB.out)) hb); have n3_:=Aside0.mk (hbox); have n4_:=Aside0.mk ((by rw [hg]; exact (below_size (by repeat (first | (with_reducible first | exact HB.out | apply below_alloc | apply pw_below_drewN | apply below_drew1 | refine below_set ?_ GE471.out | refine below_set ?_ GE472.out) | exact HB.out))) : w.heap.size ≤ gb473)); have n5_:=Aside0.mk ((by rw [hg]; exact (below_size (by repeat (first | (with_reducible first | exact HB.out | apply below_alloc | apply pw_below_drewN | apply below_drew1 | refine below_set ?_ GE471.out | refine below_set ?_ GE472.out) | exact HB.out))) : w.heap.size ≤ gb473)); have n6_:=Aside0.mk ((by rw [hg]; exact Nat.ne_of_lt (blk_lt (g:=gb471) (o:=.cells #[.slice A0_0 l0_0.length c0_0,.slice A0_1 l0_1.length c0_1,.slice A0_2 l0_2.length c0_2] 26 (0,0)) (by (with_reducible repeat (first | refine blk_drewN ?_ _ | refine blk_drew ?_ | refine blk_alloc ?_ _)); exact BK471.out)) : gb471 ≠ gb473)); have n7_:=Aside0.mk ((by rw [hg]; exact Nat.ne_of_gt (blk_lt (g:=gb471) (o:=.cells #[.slice A0_0 l0_0.length c0_0,.slice A0_1 l0_1.length c0_1,.slice A0_2 l0_2.length c0_2] 26 (0,0)) (by (with_reducible repeat (first | refine blk_drewN ?_ _ | refine blk_drew ?_ | refine blk_alloc ?_ _)); exact BK471.out)) : gb473 ≠ gb471)); have n8_:=Aside0.mk ((by rw [hg]; exact Nat.ne_of_lt (blk_lt (g:=gb472) (o:=.cells #[.slice none 0 0,.slice none 0 0,.slice none 0 0] 26 (0,0)) (by (with_reducible repeat (first | refine blk_drewN ?_ _ | refine blk_drew ?_ | refine blk_alloc ?_ _)); exact BK472.out)) : gb472 ≠ gb473)); have n9_:=Aside0.mk ((by rw [hg]; exact Nat.ne_of_gt (blk_lt (g:=gb472) (o:=.cells #[.slice none 0 0,.slice none 0 0,.slice none 0 0] 26 (0,0)) (by (with_reducible repeat (first | refine blk_drewN ?_ _ | refine blk_drew ?_ | refine blk_alloc ?_ _)); exact BK472.out)) : gb473 ≠ gb472)); clear BK471; clear BK472; clear HB; have BK471:=n0_; have BK472:=n1_; have HB:=n2_; have BK473:=n3_; have GW473:=n4_; have GE473:=n5_; have NB471_473:=n6_; have NB473_471:=n7_; have NB472_473:=n8_; have NB473_472:=n9_; clear n0_ n1_ n2_ n3_ n4_ n5_ n6_ n7_ n8_ n9_; clear hb hbox hg; have hnb5:=NB473_471.out; have hnc5:=NB471_473.out; have hnb6:=NB473_472.out; have hnc6:=NB472_473.out; have hcz7_0 : w4.cell? ⟨gb473,0,none⟩ = some (.slice none 0 0):=(blk_cell BK473.out 0).trans rfl; have hcz7_1 : w4.cell? ⟨gb473,1,none⟩ = some (.slice none 0 0):=(blk_cell BK473.out 1).trans rfl; have hcz7_2 : w4.cell? ⟨gb473,2,none⟩ = some (.slice none 0 0):=(blk_cell BK473.out 2).trans rfl; have hfz7_0:=blk_frozen BK473.out 0; have hfz7_1:=blk_frozen BK473.out 1; have hfz7_2:=blk_frozen BK473.out 2))
 go_loopg [4] k (fun kq v4 w' => ∃ (x4_1 : Int) (x474000_1 : List Int) (u474000 : Value),v4 = .int .i64 x4_1 ∧ Aside0 (rotalaw07_twin.l0 kq x4_1 l0_0 l0_1 l0_2 x474000_1 = some (r1,r2,r3)) ∧ Aside0 (kq ≤ k) ∧ Aside0 (Kd.R (Kd.int .u32) 39 w' w.heap.size (fun _ => True) u474000 x474000_1) ∧ Aside0 (w'.heap[gb471]? = some (.cells #[(.slice A0_0 l0_0.length c0_0),(.slice A0_1 l0_1.length c0_1),(.slice A0_2 l0_2.length c0_2)] 26 (0,0))) ∧ Aside0 (w'.heap[gb472]? = some (.cells #[(.slice none 0 0),(.slice none 0 0),(.slice none 0 0)] 26 (0,0))) ∧ Aside0 (w'.heap[gb473]? = some (.cells #[u474000,(.slice none 0 0),(.slice none 0 0)] 26 (0,0))) ∧ Aside0 (Below w.heap.size w w'))
 case atStart => exact ⟨(0),(([] : List Int)),(.slice none 0 0),(by first | rfl | (simp; done) | (simp [*]; done)),H',⟨Nat.le_refl _⟩,⟨by first | exact Kd.R_nil _ _ _ _ _ | exact Kd.N_nil _ _ _ _ _ | exact Kd.V_nil _ _ _ _ _ | exact Kd.Q_nil _ _ _ _ _ | exact Kd.S_nil _ _ _ _ _⟩,⟨by (with_reducible repeat (first | refine blk_drewN ?_ _ | refine blk_drew ?_ | refine blk_alloc ?_ _)); refine blk_far ?_ NB471_473.out _; (with_reducible repeat (first | refine blk_drewN ?_ _ | refine blk_drew ?_ | refine blk_alloc ?_ _)); refine blk_far ?_ NB471_473.out _; (with_reducible repeat (first | refine blk_drewN ?_ _ | refine blk_drew ?_ | refine blk_alloc ?_ _)); refine blk_far ?_ NB471_473.out _; (with_reducible repeat (first | refine blk_drewN ?_ _ | refine blk_drew ?_ | refine blk_alloc ?_ _)); exact BK471.out⟩,⟨by (with_reducible repeat (first | refine blk_drewN ?_ _ | refine blk_drew ?_ | refine blk_alloc ?_ _)); refine blk_far ?_ NB472_473.out _; (with_reducible repeat (first | refine blk_drewN ?_ _ | refine blk_drew ?_ | refine blk_alloc ?_ _)); refine blk_far ?_ NB472_473.out _; (with_reducible repeat (first | refine blk_drewN ?_ _ | refine blk_drew ?_ | refine blk_alloc ?_ _)); refine blk_far ?_ NB472_473.out _; (with_reducible repeat (first | refine blk_drewN ?_ _ | refine blk_drew ?_ | refine blk_alloc ?_ _)); exact BK472.out⟩,⟨by (with_reducible repeat (first | refine blk_drewN ?_ _ | refine blk_drew ?_ | refine blk_alloc ?_ _)); refine blk_put (cs:=#[.slice none 0 0,.slice none 0 0,.slice none 0 0]) ?_ 2 _ rfl; (with_reducible repeat (first | refine blk_drewN ?_ _ | refine blk_drew ?_ | refine blk_alloc ?_ _)); refine blk_put (cs:=#[.slice none 0 0,.slice none 0 0,.slice none 0 0]) ?_ 1 _ rfl; (with_reducible repeat (first | refine blk_drewN ?_ _ | refine blk_drew ?_ | refine blk_alloc ?_ _)); refine blk_put (cs:=#[.slice none 0 0,.slice none 0 0,.slice none 0 0]) ?_ 0 _ rfl; (with_reducible repeat (first | refine blk_drewN ?_ _ | refine blk_drew ?_ | refine blk_alloc ?_ _)); exact BK473.out⟩,⟨by repeat (first | (with_reducible first | exact HB.out | apply below_alloc | apply pw_below_drewN | apply below_drew1 | refine below_set ?_ GE471.out | refine below_set ?_ GE472.out | refine below_set ?_ GE473.out) | exact HB.out)⟩⟩
 case round =>
  clear H'
  try clear c1
  try clear p2
  try clear c5
  try clear c6
  try clear hcz7_0
  try clear hcz7_1
  try clear hcz7_2
  try clear hfz7_0
  try clear hfz7_1
  try clear hfz7_2
  obtain ⟨x4_1,x474000_1,u474000,rfl,HA,HK1,HO_474000,BK471,BK472,BK473,HB⟩:=hrel
  cases gk with
  | zero => exact absurd HA.out (by simp [rotalaw07_twin.l0])
  | succ k1 =>
   have H:=HA.out
   clear HA
   simp only [rotalaw07_twin.l0] at H
   by_cases c8 : x4_1 < (l0_0.length : Int)
   ·rw [if_pos c8] at H
    have c8b0 : decide (x4_1 < (l0_0.length : Int)) = true:=decide_eq_true c8
    clear c8
    by_cases c9 : 0 ≤ x4_1
    ·rw [if_pos c9] at H
     have c9b0 : decide (0 ≤ x4_1) = true:=decide_eq_true c9
     clear c9
     by_cases c10 : x474000_1.length < 35184372088832
     ·rw [if_pos c10] at H
      have LMc10:=Aside0.mk c10
      clear c10
      obtain ⟨y475,hy475⟩ : ∃ y_ : List Int,y_ = (x474000_1 ++ [rd l0_0 x4_1]):=⟨_,rfl⟩
      replace H : (rotalaw07_twin.l0 k1 (wrap64 (x4_1 + 1)) l0_0 l0_1 l0_2 y475) = some (r1,r2,r3):=by first | (rw [hy475]; with_reducible exact H) | (have H2_:=(Option.bind_some _ _).symm.trans H; rw [hy475]; with_reducible exact H2_) | (have H2_:=(Option.bind_some _ _).symm.trans H; with_reducible exact H2_) | with_reducible exact H | (rw [hy475]; exact H) | exact H
      have Ny475:=Aside0.mk hy475
      clear hy475
      have H':=Aside0.mk H
      clear H
      have hnb11:=NB471_472.out
      have hnc11:=NB472_471.out
      have hnb12:=NB471_473.out
      have hnc12:=NB473_471.out
      have hcz13_0 : wr.cell? ⟨gb471,0,none⟩ = some (.slice A0_0 l0_0.length c0_0):=(blk_cell BK471.out 0).trans rfl
      have hcz13_1 : wr.cell? ⟨gb471,1,none⟩ = some (.slice A0_1 l0_1.length c0_1):=(blk_cell BK471.out 1).trans rfl
      have hcz13_2 : wr.cell? ⟨gb471,2,none⟩ = some (.slice A0_2 l0_2.length c0_2):=(blk_cell BK471.out 2).trans rfl
      have hfz13_0:=blk_frozen BK471.out 0
      have hfz13_1:=blk_frozen BK471.out 1
      have hfz13_2:=blk_frozen BK471.out 2
      try go_wp2
      have n0_:=Aside0.mk (Kd.R_drew HO_474000.out)
      have n1_:=Aside0.mk (blk_drew BK471.out)
      have n2_:=Aside0.mk (blk_drew BK472.out)
      have n3_:=Aside0.mk (blk_drew BK473.out)
      have n4_:=Aside0.mk (below_drew1 HB.out)
      clear HO_474000
      clear BK471
      clear BK472
      clear BK473
      clear HB
      have HO_474000:=n0_
      have BK471:=n1_
      have BK472:=n2_
      have BK473:=n3_
      have HB:=n4_
      clear n0_ n1_ n2_ n3_ n4_
      have p474 : 0 ≤ (x4_1 : Int):=of_decide_eq_true (by first | (with_reducible assumption) | assumption)
      have q474 : x4_1 < (l0_0.length : Int):=of_decide_eq_true (by first | (with_reducible assumption) | assumption)
      obtain ⟨ad474,e474,hx474_0⟩:=Kd.at_int HR0_0.out x4_1 p474 q474
      have hw474_0:=hx474_0
      cases e474
      replace hx474_0:=(HB.out.cell (World.block_lt_of_cell? w _ hx474_0)).trans hx474_0
      replace p474:=eq_true p474
      replace q474:=eq_true q474
      refine start_ (n:=11) (S:=fun w' => w'.cell? ⟨gb473,0,none⟩ = some (u474000) ∧ w'.cell? ⟨gb473,1,none⟩ = some (.slice none 0 0) ∧ w'.cell? ⟨gb473,2,none⟩ = some (.slice none 0 0) ∧ w'.cell? ⟨gb471,0,none⟩ = some (.slice (some ad474) l0_0.length c0_0) ∧ w'.cell? ⟨gb471,1,none⟩ = some (.slice A0_1 l0_1.length c0_1) ∧ w'.cell? ⟨gb471,2,none⟩ = some (.slice A0_2 l0_2.length c0_2) ∧ w'.cell? (ad474.add (x4_1).toNat) = some (.int .u32 (rd l0_0 x4_1))) (ds:=[10]) #[false,false,false,false,false,false,false,false,false,false,false] (by kernel_rfl) rfl rfl ⟨(blk_cell BK473.out 0).trans rfl,(blk_cell BK473.out 1).trans rfl,(blk_cell BK473.out 2).trans rfl,(blk_cell BK471.out 0).trans rfl,(blk_cell BK471.out 1).trans rfl,(blk_cell BK471.out 2).trans rfl,((HB.out.cell (World.block_lt_of_cell? w _ hw474_0)).trans hw474_0)⟩ (fun hHeld => ?_); refine with_tabW rotalaw07_twin.tab5 rotalaw07_twin.bits5 (fun HT_ HW_ => ?_)
      generalize wr.drew = w14 at HO_474000 BK471 BK472 BK473 HB hx474_0 hHeld ⊢
      refine pure_ (i:=0) (N:=some 17) (v:=?_) (a':=?_) #[true,false,false,false,false,false,false,false,false,false,false] rfl rfl (any_of HT_.out (by kernel_rfl)) (fun _ _ _ h => h) (Or.inl ⟨by rfl,?_⟩) ?_ ?_
      rotate_left
      ·intro w'
       go_simp
       with_reducible rfl
      rotate_left
      ·simp only [Act.put,sAz,sCz,sCs,i64_w,i32_w]
       rfl
      refine pure_ (i:=2) (N:=some 19) (v:=?_) (a':=?_) #[true,false,true,false,false,false,false,false,false,false,false] rfl rfl (any_of HT_.out (by kernel_rfl)) (fun _ _ _ h => h) (Or.inl ⟨by rfl,?_⟩) ?_ ?_
      rotate_left
      ·intro w'
       go_simp
       with_reducible rfl
      rotate_left
      ·simp only [Act.put,sAz,sCz,sCs,i64_w,i32_w]
       rfl
      refine pure_ (i:=4) (N:=some 21) (v:=?_) (a':=?_) #[true,false,true,false,true,false,false,false,false,false,false] rfl rfl (any_of HT_.out (by kernel_rfl)) (fun _ _ _ h => h) (Or.inl ⟨by rfl,?_⟩) ?_ ?_
      rotate_left
      ·intro w'
       go_simp
       with_reducible rfl
      rotate_left
      ·simp only [Act.put,sAz,sCz,sCs,i64_w,i32_w]
       rfl
      refine take_ (i:=1) (N:=some 18) (v:=?_) (a':=?_) #[true,true,true,false,true,false,false,false,false,false,false] rfl rfl (take_ofW HT_.out HW_.out (by kernel_rfl)) (fun _ _ _ h => h) (Or.inl ⟨by rfl,?_⟩) hHeld ?_ ?_
      rotate_left
      ·rintro w' ⟨s0,s1,s2,s3,s4,s5,s6⟩
       go_simp
       with_reducible rfl
      rotate_left
      ·simp only [Act.put,sAz,sCz,sCs,i64_w,i32_w]
       rfl
      refine take_ (i:=3) (N:=some 20) (v:=?_) (a':=?_) #[true,true,true,true,true,false,false,false,false,false,false] rfl rfl (take_ofW HT_.out HW_.out (by kernel_rfl)) (fun _ _ _ h => h) (Or.inl ⟨by rfl,?_⟩) hHeld ?_ ?_
      rotate_left
      ·rintro w' ⟨s0,s1,s2,s3,s4,s5,s6⟩
       go_simp
       with_reducible rfl
      rotate_left
      ·simp only [Act.put,sAz,sCz,sCs,i64_w,i32_w]
       rfl
      refine pure_ (i:=5) (N:=some 22) (v:=?_) (a':=?_) #[true,true,true,true,true,true,false,false,false,false,false] rfl rfl (any_of HT_.out (by kernel_rfl)) (fun _ _ _ h => h) (Or.inl ⟨by rfl,?_⟩) ?_ ?_
      rotate_left
      ·intro w'
       go_simp
       with_reducible rfl
      rotate_left
      ·simp only [Act.put,sAz,sCz,sCs,i64_w,i32_w]
       rfl
      refine take_ (i:=6) (N:=some 23) (v:=?_) (a':=?_) #[true,true,true,true,true,true,true,false,false,false,false] rfl rfl (take_ofW HT_.out HW_.out (by kernel_rfl)) (fun _ _ _ h => h) (Or.inl ⟨by rfl,?_⟩) hHeld ?_ ?_
      rotate_left
      ·rintro w' ⟨s0,s1,s2,s3,s4,s5,s6⟩
       go_simp
       with_reducible rfl
      rotate_left
      ·simp only [Act.put,sAz,sCz,sCs,i64_w,i32_w]
       rfl
      refine one_ (i:=7) (N:=some 24) #[true,true,true,true,true,true,true,true,false,false,false] rfl rfl (one_of HT_.out (by kernel_rfl)) (by decide) (fun K hK => ?_)
      refine value_ (w1:=?_) (v:=?_) (by rfl) rfl ?_ ?_
      rotate_left 2
      ·go_simp
       constructor
       ·rfl
       ·rfl
      refine hK.out _ _ ⟨(blk_cell (blk_alloc BK473.out _) 0).trans rfl,(blk_cell (blk_alloc BK473.out _) 1).trans rfl,(blk_cell (blk_alloc BK473.out _) 2).trans rfl,(blk_cell (blk_alloc BK471.out _) 0).trans rfl,(blk_cell (blk_alloc BK471.out _) 1).trans rfl,(blk_cell (blk_alloc BK471.out _) 2).trans rfl,(World.cell?_alloc_lt _ _ _ (World.block_lt_of_cell? _ _ (((HB.out.cell (World.block_lt_of_cell? w _ hw474_0)).trans hw474_0)))).trans (((HB.out.cell (World.block_lt_of_cell? w _ hw474_0)).trans hw474_0))⟩ (fun hHeld => ?_)
      clear hK K
      refine norm_ (a':=?_) ?_ ?_
      rotate_left
      ·show Act.put _ (some 24) _ = _
       simp only [Act.put,sAz,sCz,sCs,i64_w,i32_w]
       rfl
      refine one_ (i:=8) (N:=some 25) #[true,true,true,true,true,true,true,true,true,false,false] rfl rfl (one_of HT_.out (by kernel_rfl)) (by decide) (fun K hK => ?_)
      refine Kd.R_append_step (Kd.int .u32) (w0:=w) w.heap.size (by rfl) (.tmp 18) (.tmp 24) 22 39 (.int .u32 0) 4 rfl Tryz.underlying22 info39 rfl (by decide) (by omega) u474000 x474000_1 (rd l0_0 x4_1) [.int .u32 (rd l0_0 x4_1)] (fun _ => True) (fun _ => False) rfl rfl ?aP (fun _ hk => hk.elim) ?aF ?aO ?aB ?aS ?aL ?_
      (case aP => exact rfl)
      (case aB => exact (by repeat (first | (with_reducible first | exact HB.out | apply below_alloc | apply pw_below_drewN | apply below_drew1 | refine below_set ?_ GE471.out | refine below_set ?_ GE472.out | refine below_set ?_ GE473.out) | exact HB.out)))
      (case aF => exact (fun _ _ => trivial))
      (case aO => exact (by (with_reducible repeat (first | apply Kd.R_alloc | apply Kd.R_drewN | apply Kd.R_drew)); exact HO_474000.out))
      (case aS => exact (below_size (by repeat (first | (with_reducible first | exact HB.out | apply below_alloc | apply pw_below_drewN | apply below_drew1 | refine below_set ?_ GE471.out | refine below_set ?_ GE472.out | refine below_set ?_ GE473.out) | exact HB.out))))
      (case aL => have:=LMc10.out; omega)
      intro v476 w15 ho hb hg hat
      rw [← Ny475.out] at ho
      have n0_:=Aside0.mk (blk_grown (g:=gb471) (o:=.cells #[.slice (some ad474) l0_0.length c0_0,.slice A0_1 l0_1.length c0_1,.slice A0_2 l0_2.length c0_2] 26 (0,0)) (by (with_reducible repeat (first | refine blk_drewN ?_ _ | refine blk_drew ?_ | refine blk_alloc ?_ _)); exact BK471.out) hg (Kd.R_ne HO_474000.out BK471.out (by decide)))
      have n1_:=Aside0.mk (blk_grown (g:=gb472) (o:=.cells #[.slice none 0 0,.slice none 0 0,.slice none 0 0] 26 (0,0)) (by (with_reducible repeat (first | refine blk_drewN ?_ _ | refine blk_drew ?_ | refine blk_alloc ?_ _)); exact BK472.out) hg (Kd.R_ne HO_474000.out BK472.out (by decide)))
      have n2_:=Aside0.mk (blk_grown (g:=gb473) (o:=.cells #[u474000,.slice none 0 0,.slice none 0 0] 26 (0,0)) (by (with_reducible repeat (first | refine blk_drewN ?_ _ | refine blk_drew ?_ | refine blk_alloc ?_ _)); exact BK473.out) hg (Kd.R_ne HO_474000.out BK473.out (by decide)))
      have n3_:=Aside0.mk (hb)
      have n4_:=Aside0.mk (ho)
      clear BK471
      clear BK472
      clear BK473
      clear HB
      clear HO_474000
      have BK471:=n0_
      have BK472:=n1_
      have BK473:=n2_
      have HB:=n3_
      have HO477:=n4_
      clear n0_ n1_ n2_ n3_ n4_
      clear ho hb hg hat
      obtain ⟨Ao16,co16,eo16⟩:=Kd.R_slice HO477.out
      (first | subst eo16 | (injection eo16 with f1_ f2_ f3_; have f4_:=f1_.symm; have f5_:=f3_.symm; clear f1_ f2_ f3_; subst f4_; subst f5_))
      refine hK.out _ _ ⟨(blk_cell BK473.out 0).trans rfl,(blk_cell BK473.out 1).trans rfl,(blk_cell BK473.out 2).trans rfl,(blk_cell BK471.out 0).trans rfl,(blk_cell BK471.out 1).trans rfl,(blk_cell BK471.out 2).trans rfl,((HB.out.cell (World.block_lt_of_cell? w _ hw474_0)).trans hw474_0)⟩ (fun hHeld => ?_)
      clear hK K
      refine norm_ (a':=?_) ?_ ?_
      rotate_left
      ·show Act.put _ (some 25) _ = _
       simp only [Act.put,sAz,sCz,sCs,i64_w,i32_w]
       rfl
      refine pure_ (i:=9) (N:=some 26) (v:=?_) (a':=?_) #[true,true,true,true,true,true,true,true,true,true,false] rfl rfl (any_of HT_.out (by kernel_rfl)) (fun _ _ _ h => h) (Or.inl ⟨by rfl,?_⟩) ?_ ?_
      rotate_left
      ·intro w'
       go_simp
       with_reducible rfl
      rotate_left
      ·simp only [Act.put,sAz,sCz,sCs,i64_w,i32_w]
       rfl
      refine last_ (i:=10) (N:=none) #[true,true,true,true,true,true,true,true,true,true,true] rfl rfl (one_of HT_.out (by kernel_rfl)) (by decide) (fun K hK => ?_)
      have hs17 : w15.cell? ⟨gb473,0,none⟩ = some (u474000):=(blk_cell BK473.out 0).trans rfl
      have hfs17:=blk_frozen BK473.out 0
      have hns17_0:=NB471_473.out
      have hns17_1:=NB472_473.out
      have hms17_0:=NB473_471.out
      have hms17_1:=NB473_472.out
      refine skip_ (w1:=?_) (by rfl) rfl ?_ ?_
      rotate_left
      ·go_simp
       rfl
      refine hK.out _ _ ?_
      clear hK K
      refine done_ (done_of HT_.out (by kernel_rfl)) ?_
      try go_wp2
      go_roundg k1
      case measure => have:=HK1.out; omega
      case rel => exact ⟨(wrap64 (x4_1 + 1)),(y475),(.slice Ao16 y475.length co16),(by first | rfl | (simp; done) | (simp [*]; done)),H',⟨by have:=HK1.out; omega⟩,⟨by (with_reducible repeat (first | apply Kd.R_alloc | apply Kd.R_drewN | apply Kd.R_drew)); exact Kd.R_mono (Kd.R_far (p:=⟨gb473,0,none⟩) (Kd.R_types HO477.out BK473.out (by decide)) (fun _ hk => hk.2) (.slice Ao16 y475.length co16)) (fun _ hk => trivial)⟩,⟨by (with_reducible repeat (first | refine blk_drewN ?_ _ | refine blk_drew ?_ | refine blk_alloc ?_ _)); refine blk_far ?_ NB471_473.out _; (with_reducible repeat (first | refine blk_drewN ?_ _ | refine blk_drew ?_ | refine blk_alloc ?_ _)); exact BK471.out⟩,⟨by (with_reducible repeat (first | refine blk_drewN ?_ _ | refine blk_drew ?_ | refine blk_alloc ?_ _)); refine blk_far ?_ NB472_473.out _; (with_reducible repeat (first | refine blk_drewN ?_ _ | refine blk_drew ?_ | refine blk_alloc ?_ _)); exact BK472.out⟩,⟨by (with_reducible repeat (first | refine blk_drewN ?_ _ | refine blk_drew ?_ | refine blk_alloc ?_ _)); refine blk_put (cs:=#[u474000,.slice none 0 0,.slice none 0 0]) ?_ 0 _ rfl; (with_reducible repeat (first | refine blk_drewN ?_ _ | refine blk_drew ?_ | refine blk_alloc ?_ _)); exact BK473.out⟩,⟨by repeat (first | (with_reducible first | exact HB.out | apply below_alloc | apply pw_below_drewN | apply below_drew1 | refine below_set ?_ GE471.out | refine below_set ?_ GE472.out | refine below_set ?_ GE473.out) | exact HB.out)⟩⟩
     ·rw [if_neg c10] at H
      exact absurd H (by simp)
    ·rw [if_neg c9] at H
     exact absurd H (by simp)
   ·rw [if_neg c8] at H
    have c8b0 : decide (x4_1 < (l0_0.length : Int)) = false:=decide_eq_false c8
    clear c8
    have H':=Aside0.mk H
    clear H
    have hnb18:=NB471_472.out
    have hnc18:=NB472_471.out
    have hnb19:=NB471_473.out
    have hnc19:=NB473_471.out
    have hcz20_0 : wr.cell? ⟨gb471,0,none⟩ = some (.slice A0_0 l0_0.length c0_0):=(blk_cell BK471.out 0).trans rfl
    have hcz20_1 : wr.cell? ⟨gb471,1,none⟩ = some (.slice A0_1 l0_1.length c0_1):=(blk_cell BK471.out 1).trans rfl
    have hcz20_2 : wr.cell? ⟨gb471,2,none⟩ = some (.slice A0_2 l0_2.length c0_2):=(blk_cell BK471.out 2).trans rfl
    have hfz20_0:=blk_frozen BK471.out 0
    have hfz20_1:=blk_frozen BK471.out 1
    have hfz20_2:=blk_frozen BK471.out 2
    go_wp2
    go_loopg [5] k1 (fun kq v5 w' => ∃ (x5_2 : Int) (x474001_2 : List (S41)) (u474001 : Value),v5 = .int .i64 x5_2 ∧ Aside0 (rotalaw07_twin.l1 kq x5_2 l0_0 l0_1 l0_2 x474000_1 x474001_2 = some (r1,r2,r3)) ∧ Aside0 (kq ≤ k1) ∧ Aside0 (Kd.R (Kd.int .u32) 39 w' w.heap.size (fun _ => True) u474000 x474000_1) ∧ Aside0 (Kd.R k41 41 w' w.heap.size (fun _ => True) u474001 x474001_2) ∧ Aside0 (w'.heap[gb471]? = some (.cells #[(.slice A0_0 l0_0.length c0_0),(.slice A0_1 l0_1.length c0_1),(.slice A0_2 l0_2.length c0_2)] 26 (0,0))) ∧ Aside0 (w'.heap[gb472]? = some (.cells #[(.slice none 0 0),(.slice none 0 0),(.slice none 0 0)] 26 (0,0))) ∧ Aside0 (w'.heap[gb473]? = some (.cells #[u474000,u474001,(.slice none 0 0)] 26 (0,0))) ∧ Aside0 (Below w.heap.size w w'))
    case atStart => exact ⟨(0),(([] : List (S41))),(.slice none 0 0),(by first | rfl | (simp; done) | (simp [*]; done)),H',⟨Nat.le_refl _⟩,⟨by (with_reducible repeat (first | apply Kd.R_alloc | apply Kd.R_drewN | apply Kd.R_drew)); exact HO_474000.out⟩,⟨by first | exact Kd.R_nil _ _ _ _ _ | exact Kd.N_nil _ _ _ _ _ | exact Kd.V_nil _ _ _ _ _ | exact Kd.Q_nil _ _ _ _ _ | exact Kd.S_nil _ _ _ _ _⟩,⟨by (with_reducible repeat (first | refine blk_drewN ?_ _ | refine blk_drew ?_ | refine blk_alloc ?_ _)); exact BK471.out⟩,⟨by (with_reducible repeat (first | refine blk_drewN ?_ _ | refine blk_drew ?_ | refine blk_alloc ?_ _)); exact BK472.out⟩,⟨by (with_reducible repeat (first | refine blk_drewN ?_ _ | refine blk_drew ?_ | refine blk_alloc ?_ _)); exact BK473.out⟩,⟨by repeat (first | (with_reducible first | exact HB.out | apply below_alloc | apply pw_below_drewN | apply below_drew1 | refine below_set ?_ GE471.out | refine below_set ?_ GE472.out | refine below_set ?_ GE473.out) | exact HB.out)⟩⟩
    case round =>
     clear H'
     try clear c1
     try clear p2
     try clear p4
     try clear q4
     try clear hx4
     try clear c5
     try clear c6
     try clear p6
     try clear c8
     try clear c8b0
     try clear c9
     try clear c9b0
     try clear c10
     try clear c11
     try clear c12
     try clear c14
     try clear c18
     try clear c19
     try clear hcz13_0
     try clear hcz13_1
     try clear hcz13_2
     try clear hcz20_0
     try clear hcz20_1
     try clear hcz20_2
     try clear hcz7_0
     try clear hcz7_1
     try clear hcz7_2
     try clear hfz13_0
     try clear hfz13_1
     try clear hfz13_2
     try clear hfz20_0
     try clear hfz20_1
     try clear hfz20_2
     try clear hfz7_0
     try clear hfz7_1
     try clear hfz7_2
     try clear hx474_0
     try clear p2
     try clear p474
     try clear q474
     obtain ⟨x5_2,x474001_2,u474001,rfl,HA,HK2,HO_474000,HO_474001,BK471,BK472,BK473,HB⟩:=hrel
     cases gk with
     | zero => exact absurd HA.out (by simp [rotalaw07_twin.l1])
     | succ k2 =>
      have H:=HA.out
      clear HA
      simp only [rotalaw07_twin.l1] at H
      by_cases c21 : x5_2 < (l0_1.length : Int)
      ·rw [if_pos c21] at H
       have c21b0 : decide (x5_2 < (l0_1.length : Int)) = true:=decide_eq_true c21
       clear c21
       by_cases c22 : 0 ≤ x5_2
       ·rw [if_pos c22] at H
        have c22b0 : decide (0 ≤ x5_2) = true:=decide_eq_true c22
        clear c22
        by_cases c23 : x474001_2.length < 8796093022208
        ·rw [if_pos c23] at H
         have LMc23:=Aside0.mk c23
         clear c23
         obtain ⟨y479,hy479⟩ : ∃ y_ : List (S41),y_ = (x474001_2 ++ [(⟨(rd_T41 l0_1 x5_2).f0,(rd_T41 l0_1 x5_2).f1⟩ : S41)]):=⟨_,rfl⟩
         replace H : (rotalaw07_twin.l1 k2 (wrap64 (x5_2 + 1)) l0_0 l0_1 l0_2 x474000_1 y479) = some (r1,r2,r3):=by first | (rw [hy479]; with_reducible exact H) | (have H2_:=(Option.bind_some _ _).symm.trans H; rw [hy479]; with_reducible exact H2_) | (have H2_:=(Option.bind_some _ _).symm.trans H; with_reducible exact H2_) | with_reducible exact H | (rw [hy479]; exact H) | exact H
         have Ny479:=Aside0.mk hy479
         clear hy479
         have H':=Aside0.mk H
         clear H
         have hnb24:=NB471_472.out
         have hnc24:=NB472_471.out
         have hnb25:=NB471_473.out
         have hnc25:=NB473_471.out
         have hcz26_0 : wr.cell? ⟨gb471,0,none⟩ = some (.slice A0_0 l0_0.length c0_0):=(blk_cell BK471.out 0).trans rfl
         have hcz26_1 : wr.cell? ⟨gb471,1,none⟩ = some (.slice A0_1 l0_1.length c0_1):=(blk_cell BK471.out 1).trans rfl
         have hcz26_2 : wr.cell? ⟨gb471,2,none⟩ = some (.slice A0_2 l0_2.length c0_2):=(blk_cell BK471.out 2).trans rfl
         have hfz26_0:=blk_frozen BK471.out 0
         have hfz26_1:=blk_frozen BK471.out 1
         have hfz26_2:=blk_frozen BK471.out 2
         try go_wp2
         have n0_:=Aside0.mk (Kd.R_drew HO_474000.out)
         have n1_:=Aside0.mk (Kd.R_drew HO_474001.out)
         have n2_:=Aside0.mk (blk_drew BK471.out)
         have n3_:=Aside0.mk (blk_drew BK472.out)
         have n4_:=Aside0.mk (blk_drew BK473.out)
         have n5_:=Aside0.mk (below_drew1 HB.out)
         clear HO_474000
         clear HO_474001
         clear BK471
         clear BK472
         clear BK473
         clear HB
         have HO_474000:=n0_
         have HO_474001:=n1_
         have BK471:=n2_
         have BK472:=n3_
         have BK473:=n4_
         have HB:=n5_
         clear n0_ n1_ n2_ n3_ n4_ n5_
         have p478 : 0 ≤ (x5_2 : Int):=of_decide_eq_true (by first | (with_reducible assumption) | assumption)
         have q478 : x5_2 < (l0_1.length : Int):=of_decide_eq_true (by first | (with_reducible assumption) | assumption)
         obtain ⟨ad478,e478,hx478_0,hx478_1⟩:=at_T41 HR0_1.out x5_2 p478 q478
         have hw478_1:=hx478_1
         have hw478_0:=hx478_0
         cases e478
         replace hx478_0:=(HB.out.cell (World.block_lt_of_cell? w _ hx478_0)).trans hx478_0
         replace hx478_1:=(HB.out.cell (World.block_lt_of_cell? w _ hx478_1)).trans hx478_1
         replace p478:=eq_true p478
         replace q478:=eq_true q478
         refine start_ (n:=11) (S:=fun w' => w'.cell? ⟨gb473,0,none⟩ = some (u474000) ∧ w'.cell? ⟨gb473,1,none⟩ = some (u474001) ∧ w'.cell? ⟨gb473,2,none⟩ = some (.slice none 0 0) ∧ w'.cell? ⟨gb471,0,none⟩ = some (.slice A0_0 l0_0.length c0_0) ∧ w'.cell? ⟨gb471,1,none⟩ = some (.slice (some ad478) l0_1.length c0_1) ∧ w'.cell? ⟨gb471,2,none⟩ = some (.slice A0_2 l0_2.length c0_2) ∧ w'.cell? (ad478.add ((x5_2).toNat * 2)) = some (.int .i64 ((rd_T41 l0_1 x5_2).f0)) ∧ w'.cell? ⟨(ad478.add ((x5_2).toNat * 2)).block,(ad478.add ((x5_2).toNat * 2)).off + 1,none⟩ = some (.int .i64 ((rd_T41 l0_1 x5_2).f1))) (ds:=[10]) #[false,false,false,false,false,false,false,false,false,false,false] (by kernel_rfl) rfl rfl ⟨(blk_cell BK473.out 0).trans rfl,(blk_cell BK473.out 1).trans rfl,(blk_cell BK473.out 2).trans rfl,(blk_cell BK471.out 0).trans rfl,(blk_cell BK471.out 1).trans rfl,(blk_cell BK471.out 2).trans rfl,((HB.out.cell (World.block_lt_of_cell? w _ hw478_0)).trans hw478_0),((HB.out.cell (World.block_lt_of_cell? w _ hw478_1)).trans hw478_1)⟩ (fun hHeld => ?_); refine with_tabW rotalaw07_twin.tab9 rotalaw07_twin.bits9 (fun HT_ HW_ => ?_)
         generalize wr.drew = w27 at HO_474000 HO_474001 BK471 BK472 BK473 HB hx478_0 hx478_1 hHeld ⊢
         refine pure_ (i:=0) (N:=some 34) (v:=?_) (a':=?_) #[true,false,false,false,false,false,false,false,false,false,false] rfl rfl (any_of HT_.out (by kernel_rfl)) (fun _ _ _ h => h) (Or.inl ⟨by rfl,?_⟩) ?_ ?_
         rotate_left
         ·intro w'
          go_simp
          with_reducible rfl
         rotate_left
         ·simp only [Act.put,sAz,sCz,sCs,i64_w,i32_w]
          rfl
         refine pure_ (i:=2) (N:=some 36) (v:=?_) (a':=?_) #[true,false,true,false,false,false,false,false,false,false,false] rfl rfl (any_of HT_.out (by kernel_rfl)) (fun _ _ _ h => h) (Or.inl ⟨by rfl,?_⟩) ?_ ?_
         rotate_left
         ·intro w'
          go_simp
          with_reducible rfl
         rotate_left
         ·simp only [Act.put,sAz,sCz,sCs,i64_w,i32_w]
          rfl
         refine pure_ (i:=4) (N:=some 38) (v:=?_) (a':=?_) #[true,false,true,false,true,false,false,false,false,false,false] rfl rfl (any_of HT_.out (by kernel_rfl)) (fun _ _ _ h => h) (Or.inl ⟨by rfl,?_⟩) ?_ ?_
         rotate_left
         ·intro w'
          go_simp
          with_reducible rfl
         rotate_left
         ·simp only [Act.put,sAz,sCz,sCs,i64_w,i32_w]
          rfl
         refine take_ (i:=1) (N:=some 35) (v:=?_) (a':=?_) #[true,true,true,false,true,false,false,false,false,false,false] rfl rfl (take_ofW HT_.out HW_.out (by kernel_rfl)) (fun _ _ _ h => h) (Or.inl ⟨by rfl,?_⟩) hHeld ?_ ?_
         rotate_left
         ·rintro w' ⟨s0,s1,s2,s3,s4,s5,s6,s7⟩
          go_simp
          with_reducible rfl
         rotate_left
         ·simp only [Act.put,sAz,sCz,sCs,i64_w,i32_w]
          rfl
         refine take_ (i:=3) (N:=some 37) (v:=?_) (a':=?_) #[true,true,true,true,true,false,false,false,false,false,false] rfl rfl (take_ofW HT_.out HW_.out (by kernel_rfl)) (fun _ _ _ h => h) (Or.inl ⟨by rfl,?_⟩) hHeld ?_ ?_
         rotate_left
         ·rintro w' ⟨s0,s1,s2,s3,s4,s5,s6,s7⟩
          go_simp
          with_reducible rfl
         rotate_left
         ·simp only [Act.put,sAz,sCz,sCs,i64_w,i32_w]
          rfl
         refine pure_ (i:=5) (N:=some 39) (v:=?_) (a':=?_) #[true,true,true,true,true,true,false,false,false,false,false] rfl rfl (any_of HT_.out (by kernel_rfl)) (fun _ _ _ h => h) (Or.inl ⟨by rfl,?_⟩) ?_ ?_
         rotate_left
         ·intro w'
          go_simp
          with_reducible rfl
         rotate_left
         ·simp only [Act.put,sAz,sCz,sCs,i64_w,i32_w]
          rfl
         refine take_ (i:=6) (N:=some 40) (v:=?_) (a':=?_) #[true,true,true,true,true,true,true,false,false,false,false] rfl rfl (take_ofW HT_.out HW_.out (by kernel_rfl)) (fun _ _ _ h => h) (Or.inl ⟨by rfl,?_⟩) hHeld ?_ ?_
         rotate_left
         ·rintro w' ⟨s0,s1,s2,s3,s4,s5,s6,s7⟩
          go_simp
          with_reducible rfl
         rotate_left
         ·simp only [Act.put,sAz,sCz,sCs,i64_w,i32_w]
          rfl
         refine one_ (i:=7) (N:=some 41) #[true,true,true,true,true,true,true,true,false,false,false] rfl rfl (one_of HT_.out (by kernel_rfl)) (by decide) (fun K hK => ?_)
         refine value_ (w1:=?_) (v:=?_) (by rfl) rfl ?_ ?_
         rotate_left 2
         ·go_simp
          constructor
          ·rfl
          ·rfl
         refine hK.out _ _ ⟨(blk_cell (blk_alloc BK473.out _) 0).trans rfl,(blk_cell (blk_alloc BK473.out _) 1).trans rfl,(blk_cell (blk_alloc BK473.out _) 2).trans rfl,(blk_cell (blk_alloc BK471.out _) 0).trans rfl,(blk_cell (blk_alloc BK471.out _) 1).trans rfl,(blk_cell (blk_alloc BK471.out _) 2).trans rfl,(World.cell?_alloc_lt _ _ _ (World.block_lt_of_cell? _ _ (((HB.out.cell (World.block_lt_of_cell? w _ hw478_0)).trans hw478_0)))).trans (((HB.out.cell (World.block_lt_of_cell? w _ hw478_0)).trans hw478_0)),(World.cell?_alloc_lt _ _ _ (World.block_lt_of_cell? _ _ (((HB.out.cell (World.block_lt_of_cell? w _ hw478_1)).trans hw478_1)))).trans (((HB.out.cell (World.block_lt_of_cell? w _ hw478_1)).trans hw478_1))⟩ (fun hHeld => ?_)
         clear hK K
         refine norm_ (a':=?_) ?_ ?_
         rotate_left
         ·show Act.put _ (some 41) _ = _
          simp only [Act.put,sAz,sCz,sCs,i64_w,i32_w]
          rfl
         refine one_ (i:=8) (N:=some 42) #[true,true,true,true,true,true,true,true,true,false,false] rfl rfl (one_of HT_.out (by kernel_rfl)) (by decide) (fun K hK => ?_)
         refine Kd.R_append_step k41 (w0:=w) w.heap.size (by rfl) (.tmp 35) (.tmp 41) 23 41 (.agg #[(.int .i64 0),(.int .i64 0)]) 16 rfl Tryz.underlying23 info41 rfl (by decide) (by omega) u474001 x474001_2 (⟨(rd_T41 l0_1 x5_2).f0,(rd_T41 l0_1 x5_2).f1⟩ : S41) [.int .i64 ((rd_T41 l0_1 x5_2).f0),.int .i64 ((rd_T41 l0_1 x5_2).f1)] (fun _ => True) (fun _ => False) rfl rfl ?aP (fun _ hk => hk.elim) ?aF ?aO ?aB ?aS ?aL ?_
         (case aP => exact k41_mkM _ _ _ (⟨(rd_T41 l0_1 x5_2).f0,(rd_T41 l0_1 x5_2).f1⟩ : S41))
         (case aB => exact (by repeat (first | (with_reducible first | exact HB.out | apply below_alloc | apply pw_below_drewN | apply below_drew1 | refine below_set ?_ GE471.out | refine below_set ?_ GE472.out | refine below_set ?_ GE473.out) | exact HB.out)))
         (case aF => exact (fun _ _ => trivial))
         (case aO => exact (by (with_reducible repeat (first | apply Kd.R_alloc | apply Kd.R_drewN | apply Kd.R_drew)); exact HO_474001.out))
         (case aS => exact (below_size (by repeat (first | (with_reducible first | exact HB.out | apply below_alloc | apply pw_below_drewN | apply below_drew1 | refine below_set ?_ GE471.out | refine below_set ?_ GE472.out | refine below_set ?_ GE473.out) | exact HB.out))))
         (case aL => have:=LMc23.out; omega)
         intro v480 w28 ho hb hg hat
         rw [← Ny479.out] at ho
         have n0_:=Aside0.mk (Kd.R_over' (by (with_reducible repeat (first | apply Kd.R_alloc | apply Kd.R_drewN | apply Kd.R_drew)); exact HO_474000.out) (Kd.R_typed (by (with_reducible repeat (first | apply Kd.R_alloc | apply Kd.R_drewN | apply Kd.R_drew)); exact HO_474001.out)) (by decide) hg)
         have n1_:=Aside0.mk (blk_grown (g:=gb471) (o:=.cells #[.slice A0_0 l0_0.length c0_0,.slice (some ad478) l0_1.length c0_1,.slice A0_2 l0_2.length c0_2] 26 (0,0)) (by (with_reducible repeat (first | refine blk_drewN ?_ _ | refine blk_drew ?_ | refine blk_alloc ?_ _)); exact BK471.out) hg (Kd.R_ne HO_474001.out BK471.out (by decide)))
         have n2_:=Aside0.mk (blk_grown (g:=gb472) (o:=.cells #[.slice none 0 0,.slice none 0 0,.slice none 0 0] 26 (0,0)) (by (with_reducible repeat (first | refine blk_drewN ?_ _ | refine blk_drew ?_ | refine blk_alloc ?_ _)); exact BK472.out) hg (Kd.R_ne HO_474001.out BK472.out (by decide)))
         have n3_:=Aside0.mk (blk_grown (g:=gb473) (o:=.cells #[u474000,u474001,.slice none 0 0] 26 (0,0)) (by (with_reducible repeat (first | refine blk_drewN ?_ _ | refine blk_drew ?_ | refine blk_alloc ?_ _)); exact BK473.out) hg (Kd.R_ne HO_474001.out BK473.out (by decide)))
         have n4_:=Aside0.mk (hb)
         have n5_:=Aside0.mk (ho)
         clear HO_474000
         clear BK471
         clear BK472
         clear BK473
         clear HB
         clear HO_474001
         have HO_474000:=n0_
         have BK471:=n1_
         have BK472:=n2_
         have BK473:=n3_
         have HB:=n4_
         have HO481:=n5_
         clear n0_ n1_ n2_ n3_ n4_ n5_
         clear ho hb hg hat
         obtain ⟨Ao29,co29,eo29⟩:=Kd.R_slice HO481.out
         (first | subst eo29 | (injection eo29 with f1_ f2_ f3_; have f4_:=f1_.symm; have f5_:=f3_.symm; clear f1_ f2_ f3_; subst f4_; subst f5_))
         refine hK.out _ _ ⟨(blk_cell BK473.out 0).trans rfl,(blk_cell BK473.out 1).trans rfl,(blk_cell BK473.out 2).trans rfl,(blk_cell BK471.out 0).trans rfl,(blk_cell BK471.out 1).trans rfl,(blk_cell BK471.out 2).trans rfl,((HB.out.cell (World.block_lt_of_cell? w _ hw478_0)).trans hw478_0),((HB.out.cell (World.block_lt_of_cell? w _ hw478_1)).trans hw478_1)⟩ (fun hHeld => ?_)
         clear hK K
         refine norm_ (a':=?_) ?_ ?_
         rotate_left
         ·show Act.put _ (some 42) _ = _
          simp only [Act.put,sAz,sCz,sCs,i64_w,i32_w]
          rfl
         refine pure_ (i:=9) (N:=some 43) (v:=?_) (a':=?_) #[true,true,true,true,true,true,true,true,true,true,false] rfl rfl (any_of HT_.out (by kernel_rfl)) (fun _ _ _ h => h) (Or.inl ⟨by rfl,?_⟩) ?_ ?_
         rotate_left
         ·intro w'
          go_simp
          with_reducible rfl
         rotate_left
         ·simp only [Act.put,sAz,sCz,sCs,i64_w,i32_w]
          rfl
         refine last_ (i:=10) (N:=none) #[true,true,true,true,true,true,true,true,true,true,true] rfl rfl (one_of HT_.out (by kernel_rfl)) (by decide) (fun K hK => ?_)
         have hs30 : w28.cell? ⟨gb473,1,none⟩ = some (u474001):=(blk_cell BK473.out 1).trans rfl
         have hfs30:=blk_frozen BK473.out 1
         have hns30_0:=NB471_473.out
         have hns30_1:=NB472_473.out
         have hms30_0:=NB473_471.out
         have hms30_1:=NB473_472.out
         refine skip_ (w1:=?_) (by rfl) rfl ?_ ?_
         rotate_left
         ·go_simp
          rfl
         refine hK.out _ _ ?_
         clear hK K
         refine done_ (done_of HT_.out (by kernel_rfl)) ?_
         try go_wp2
         go_roundg k2
         case measure => have:=HK1.out; have:=HK2.out; omega
         case rel => exact ⟨(wrap64 (x5_2 + 1)),(y479),(.slice Ao29 y479.length co29),(by first | rfl | (simp; done) | (simp [*]; done)),H',⟨by have:=HK1.out; have:=HK2.out; omega⟩,⟨by (with_reducible repeat (first | apply Kd.R_alloc | apply Kd.R_drewN | apply Kd.R_drew)); exact Kd.R_mono (Kd.R_far (p:=⟨gb473,1,none⟩) (Kd.R_types HO_474000.out BK473.out (by decide)) (fun _ hk => hk.2) (.slice Ao29 y479.length co29)) (fun _ hk => trivial)⟩,⟨by (with_reducible repeat (first | apply Kd.R_alloc | apply Kd.R_drewN | apply Kd.R_drew)); exact Kd.R_mono (Kd.R_far (p:=⟨gb473,1,none⟩) (Kd.R_types HO481.out BK473.out (by decide)) (fun _ hk => hk.2) (.slice Ao29 y479.length co29)) (fun _ hk => trivial)⟩,⟨by (with_reducible repeat (first | refine blk_drewN ?_ _ | refine blk_drew ?_ | refine blk_alloc ?_ _)); refine blk_far ?_ NB471_473.out _; (with_reducible repeat (first | refine blk_drewN ?_ _ | refine blk_drew ?_ | refine blk_alloc ?_ _)); exact BK471.out⟩,⟨by (with_reducible repeat (first | refine blk_drewN ?_ _ | refine blk_drew ?_ | refine blk_alloc ?_ _)); refine blk_far ?_ NB472_473.out _; (with_reducible repeat (first | refine blk_drewN ?_ _ | refine blk_drew ?_ | refine blk_alloc ?_ _)); exact BK472.out⟩,⟨by (with_reducible repeat (first | refine blk_drewN ?_ _ | refine blk_drew ?_ | refine blk_alloc ?_ _)); refine blk_put (cs:=#[u474000,u474001,.slice none 0 0]) ?_ 1 _ rfl; (with_reducible repeat (first | refine blk_drewN ?_ _ | refine blk_drew ?_ | refine blk_alloc ?_ _)); exact BK473.out⟩,⟨by repeat (first | (with_reducible first | exact HB.out | apply below_alloc | apply pw_below_drewN | apply below_drew1 | refine below_set ?_ GE471.out | refine below_set ?_ GE472.out | refine below_set ?_ GE473.out) | exact HB.out)⟩⟩
        ·rw [if_neg c23] at H
         exact absurd H (by simp)
       ·rw [if_neg c22] at H
        exact absurd H (by simp)
      ·rw [if_neg c21] at H
       have c21b0 : decide (x5_2 < (l0_1.length : Int)) = false:=decide_eq_false c21
       clear c21
       have H':=Aside0.mk H
       clear H
       have hnb31:=NB471_472.out
       have hnc31:=NB472_471.out
       have hnb32:=NB471_473.out
       have hnc32:=NB473_471.out
       have hcz33_0 : wr.cell? ⟨gb471,0,none⟩ = some (.slice A0_0 l0_0.length c0_0):=(blk_cell BK471.out 0).trans rfl
       have hcz33_1 : wr.cell? ⟨gb471,1,none⟩ = some (.slice A0_1 l0_1.length c0_1):=(blk_cell BK471.out 1).trans rfl
       have hcz33_2 : wr.cell? ⟨gb471,2,none⟩ = some (.slice A0_2 l0_2.length c0_2):=(blk_cell BK471.out 2).trans rfl
       have hfz33_0:=blk_frozen BK471.out 0
       have hfz33_1:=blk_frozen BK471.out 1
       have hfz33_2:=blk_frozen BK471.out 2
       go_wp2
       go_loopg [6] k2 (fun kq v6 w' => ∃ (x6_3 : Int) (x474002_3 : List (S44)) (u474002 : Value),v6 = .int .i64 x6_3 ∧ Aside0 (rotalaw07_twin.l2 kq x6_3 l0_0 l0_1 l0_2 x474000_1 x474001_2 x474002_3 = some (r1,r2,r3)) ∧ Aside0 (kq ≤ k2) ∧ Aside0 (Kd.R (Kd.int .u32) 39 w' w.heap.size (fun _ => True) u474000 x474000_1) ∧ Aside0 (Kd.R k41 41 w' w.heap.size (fun _ => True) u474001 x474001_2) ∧ Aside0 (Kd.S k44 44 w' w.heap.size (fun _ => True) u474002 x474002_3) ∧ Aside0 (w'.heap[gb471]? = some (.cells #[(.slice A0_0 l0_0.length c0_0),(.slice A0_1 l0_1.length c0_1),(.slice A0_2 l0_2.length c0_2)] 26 (0,0))) ∧ Aside0 (w'.heap[gb472]? = some (.cells #[(.slice none 0 0),(.slice none 0 0),(.slice none 0 0)] 26 (0,0))) ∧ Aside0 (w'.heap[gb473]? = some (.cells #[u474000,u474001,u474002] 26 (0,0))) ∧ Aside0 (Below w.heap.size w w'))
       case atStart => exact ⟨(0),(([] : List (S44))),(.slice none 0 0),(by first | rfl | (simp; done) | (simp [*]; done)),H',⟨Nat.le_refl _⟩,⟨by (with_reducible repeat (first | apply Kd.R_alloc | apply Kd.R_drewN | apply Kd.R_drew)); exact HO_474000.out⟩,⟨by (with_reducible repeat (first | apply Kd.R_alloc | apply Kd.R_drewN | apply Kd.R_drew)); exact HO_474001.out⟩,⟨by first | exact Kd.S_nil _ _ _ _ _ | exact Kd.N_nil _ _ _ _ _ | exact Kd.V_nil _ _ _ _ _ | exact Kd.Q_nil _ _ _ _ _ | exact Kd.R_nil _ _ _ _ _⟩,⟨by (with_reducible repeat (first | refine blk_drewN ?_ _ | refine blk_drew ?_ | refine blk_alloc ?_ _)); exact BK471.out⟩,⟨by (with_reducible repeat (first | refine blk_drewN ?_ _ | refine blk_drew ?_ | refine blk_alloc ?_ _)); exact BK472.out⟩,⟨by (with_reducible repeat (first | refine blk_drewN ?_ _ | refine blk_drew ?_ | refine blk_alloc ?_ _)); exact BK473.out⟩,⟨by repeat (first | (with_reducible first | exact HB.out | apply below_alloc | apply pw_below_drewN | apply below_drew1 | refine below_set ?_ GE471.out | refine below_set ?_ GE472.out | refine below_set ?_ GE473.out) | exact HB.out)⟩⟩
       case round =>
        clear H'
        try clear c1
        try clear c2
        try clear p2
        try clear c3
        try clear p4
        try clear q4
        try clear hx4
        try clear c5
        try clear c6
        try clear p6
        try clear c8
        try clear c8b0
        try clear c9
        try clear c9b0
        try clear c10
        try clear c11
        try clear c12
        try clear c14
        try clear c18
        try clear c19
        try clear c21
        try clear c21b0
        try clear c22
        try clear c22b0
        try clear c23
        try clear c24
        try clear c25
        try clear c31
        try clear c32
        try clear hcz13_0
        try clear hcz13_1
        try clear hcz13_2
        try clear hcz20_0
        try clear hcz20_1
        try clear hcz20_2
        try clear hcz26_0
        try clear hcz26_1
        try clear hcz26_2
        try clear hcz33_0
        try clear hcz33_1
        try clear hcz33_2
        try clear hcz7_0
        try clear hcz7_1
        try clear hcz7_2
        try clear hfz13_0
        try clear hfz13_1
        try clear hfz13_2
        try clear hfz20_0
        try clear hfz20_1
        try clear hfz20_2
        try clear hfz26_0
        try clear hfz26_1
        try clear hfz26_2
        try clear hfz33_0
        try clear hfz33_1
        try clear hfz33_2
        try clear hfz7_0
        try clear hfz7_1
        try clear hfz7_2
        try clear hx474_0
        try clear hx478_0
        try clear hx478_1
        try clear p2
        try clear p4
        try clear p474
        try clear p478
        try clear p6
        try clear q4
        try clear q474
        try clear q478
        obtain ⟨x6_3,x474002_3,u474002,rfl,HA,HK3,HO_474000,HO_474001,HO_474002,BK471,BK472,BK473,HB⟩:=hrel
        cases gk with
        | zero => exact absurd HA.out (by simp [rotalaw07_twin.l2])
        | succ k3 =>
         have H:=HA.out
         clear HA
         simp only [rotalaw07_twin.l2] at H
         by_cases c34 : x6_3 < (l0_2.length : Int)
         ·rw [if_pos c34] at H
          have c34b0 : decide (x6_3 < (l0_2.length : Int)) = true:=decide_eq_true c34
          clear c34
          by_cases c35 : 0 ≤ x6_3
          ·rw [if_pos c35] at H
           have c35b0 : decide (0 ≤ x6_3) = true:=decide_eq_true c35
           clear c35
           have H':=Aside0.mk H
           clear H
           have hnb36:=NB471_472.out
           have hnc36:=NB472_471.out
           have hnb37:=NB471_473.out
           have hnc37:=NB473_471.out
           have hcz38_0 : wr.cell? ⟨gb471,0,none⟩ = some (.slice A0_0 l0_0.length c0_0):=(blk_cell BK471.out 0).trans rfl
           have hcz38_1 : wr.cell? ⟨gb471,1,none⟩ = some (.slice A0_1 l0_1.length c0_1):=(blk_cell BK471.out 1).trans rfl
           have hcz38_2 : wr.cell? ⟨gb471,2,none⟩ = some (.slice A0_2 l0_2.length c0_2):=(blk_cell BK471.out 2).trans rfl
           have hfz38_0:=blk_frozen BK471.out 0
           have hfz38_1:=blk_frozen BK471.out 1
           have hfz38_2:=blk_frozen BK471.out 2
           have p482 : 0 ≤ (x6_3 : Int):=of_decide_eq_true (by first | (with_reducible assumption) | assumption)
           have q482 : x6_3 < (l0_2.length : Int):=of_decide_eq_true (by first | (with_reducible assumption) | assumption)
           obtain ⟨ad482,A482_0,c482_0,e482,hx482_0,hx482_1,hl482_0,hi482_0⟩:=at_T44 HR0_2.out x6_3 p482 q482
           cases e482
           replace hx482_0:=(HB.out.cell (World.block_lt_of_cell? w _ hx482_0)).trans hx482_0
           replace hx482_1:=(HB.out.cell (World.block_lt_of_cell? w _ hx482_1)).trans hx482_1
           have HR482_0:=Aside0.mk hi482_0
           have HC482_0:=Aside0.mk hl482_0
           clear hi482_0 hl482_0
           replace p482:=eq_true p482
           replace q482:=eq_true q482
           go_wp2_with (first | ((with_reducible refine gate_dst (N:=7) rfl ?_); refine box_event ?hg (N:=7) ?hd (cs:=#[.slice none 0 0,.bool false]) (t:=44) ?hr ?_; (case hd => rfl); (case hg => rfl); (case hr => first | (go_simp; done) | (go_simp; rfl)); intro gb483 hg w39 hbox hb; have n0_:=Aside0.mk (Kd.R_below (by (with_reducible repeat (first | apply Kd.R_alloc | apply Kd.R_drewN | apply Kd.R_drew)); exact HO_474000.out) hb); have n1_:=Aside0.mk (Kd.R_below (by (with_reducible repeat (first | apply Kd.R_alloc | apply Kd.R_drewN | apply Kd.R_drew)); exact HO_474001.out) hb); have n2_:=Aside0.mk (Kd.S_below (Kd.S_elderB (by (with_reducible repeat (first | apply Kd.S_alloc | apply Kd.S_drewN | apply Kd.S_drew)); exact HO_474002.out) gb483 (Nat.le_of_eq hg.symm)) hb); have n3_:=Aside0.mk (blk_below (g:=gb471) (o:=.cells #[.slice A0_0 l0_0.length c0_0,.slice A0_1 l0_1.length c0_1,.slice (some ad482) l0_2.length c0_2] 26 (0,0)) (by (with_reducible repeat (first | refine blk_drewN ?_ _ | refine blk_drew ?_ | refine blk_alloc ?_ _)); exact BK471.out) hb); have n4_:=Aside0.mk (blk_below (g:=gb472) (o:=.cells #[.slice none 0 0,.slice none 0 0,.slice none 0 0] 26 (0,0)) (by (with_reducible repeat (first | refine blk_drewN ?_ _ | refine blk_drew ?_ | refine blk_alloc ?_ _)); exact BK472.out) hb); have n5_:=Aside0.mk (blk_below (g:=gb473) (o:=.cells #[u474000,u474001,u474002] 26 (0,0)) (by (with_reducible repeat (first | refine blk_drewN ?_ _ | refine blk_drew ?_ | refine blk_alloc ?_ _)); exact BK473.out) hb); have n6_:=Aside0.mk (below_step (by repeat (first | (with_reducible first | exact HB.out | apply below_alloc | apply pw_below_drewN | apply below_drew1 | refine below_set ?_ GE471.out | refine below_set ?_ GE472.out | refine below_set ?_ GE473.out) | exact HB.out)) hb); have n7_:=Aside0.mk (hbox); have n8_:=Aside0.mk ((by rw [hg]; exact (below_size (by repeat (first | (with_reducible first | exact HB.out | apply below_alloc | apply pw_below_drewN | apply below_drew1 | refine below_set ?_ GE471.out | refine below_set ?_ GE472.out | refine below_set ?_ GE473.out) | exact HB.out))) : w.heap.size ≤ gb483)); have n9_:=Aside0.mk ((by rw [hg]; exact (below_size (by repeat (first | (with_reducible first | exact HB.out | apply below_alloc | apply pw_below_drewN | apply below_drew1 | refine below_set ?_ GE471.out | refine below_set ?_ GE472.out | refine below_set ?_ GE473.out) | exact HB.out))) : w.heap.size ≤ gb483)); have n10_:=Aside0.mk ((by rw [hg]; exact Nat.ne_of_lt (blk_lt (g:=gb471) (o:=.cells #[.slice A0_0 l0_0.length c0_0,.slice A0_1 l0_1.length c0_1,.slice (some ad482) l0_2.length c0_2] 26 (0,0)) (by (with_reducible repeat (first | refine blk_drewN ?_ _ | refine blk_drew ?_ | refine blk_alloc ?_ _)); exact BK471.out)) : gb471 ≠ gb483)); have n11_:=Aside0.mk ((by rw [hg]; exact Nat.ne_of_gt (blk_lt (g:=gb471) (o:=.cells #[.slice A0_0 l0_0.length c0_0,.slice A0_1 l0_1.length c0_1,.slice (some ad482) l0_2.length c0_2] 26 (0,0)) (by (with_reducible repeat (first | refine blk_drewN ?_ _ | refine blk_drew ?_ | refine blk_alloc ?_ _)); exact BK471.out)) : gb483 ≠ gb471)); have n12_:=Aside0.mk ((by rw [hg]; exact Nat.ne_of_lt (blk_lt (g:=gb472) (o:=.cells #[.slice none 0 0,.slice none 0 0,.slice none 0 0] 26 (0,0)) (by (with_reducible repeat (first | refine blk_drewN ?_ _ | refine blk_drew ?_ | refine blk_alloc ?_ _)); exact BK472.out)) : gb472 ≠ gb483)); have n13_:=Aside0.mk ((by rw [hg]; exact Nat.ne_of_gt (blk_lt (g:=gb472) (o:=.cells #[.slice none 0 0,.slice none 0 0,.slice none 0 0] 26 (0,0)) (by (with_reducible repeat (first | refine blk_drewN ?_ _ | refine blk_drew ?_ | refine blk_alloc ?_ _)); exact BK472.out)) : gb483 ≠ gb472)); have n14_:=Aside0.mk ((by rw [hg]; exact Nat.ne_of_lt (blk_lt (g:=gb473) (o:=.cells #[u474000,u474001,u474002] 26 (0,0)) (by (with_reducible repeat (first | refine blk_drewN ?_ _ | refine blk_drew ?_ | refine blk_alloc ?_ _)); exact BK473.out)) : gb473 ≠ gb483)); have n15_:=Aside0.mk ((by rw [hg]; exact Nat.ne_of_gt (blk_lt (g:=gb473) (o:=.cells #[u474000,u474001,u474002] 26 (0,0)) (by (with_reducible repeat (first | refine blk_drewN ?_ _ | refine blk_drew ?_ | refine blk_alloc ?_ _)); exact BK473.out)) : gb483 ≠ gb473)); clear HO_474000; clear HO_474001; clear HO_474002; clear BK471; clear BK472; clear BK473; clear HB; have HO_474000:=n0_; have HO_474001:=n1_; have HO_474002:=n2_; have BK471:=n3_; have BK472:=n4_; have BK473:=n5_; have HB:=n6_; have BK483:=n7_; have GW483:=n8_; have GE483:=n9_; have NB471_483:=n10_; have NB483_471:=n11_; have NB472_483:=n12_; have NB483_472:=n13_; have NB473_483:=n14_; have NB483_473:=n15_; clear n0_ n1_ n2_ n3_ n4_ n5_ n6_ n7_ n8_ n9_ n10_ n11_ n12_ n13_ n14_ n15_; clear hb hbox hg; have hnb40:=NB483_471.out; have hnc40:=NB471_483.out; have hnb41:=NB483_472.out; have hnc41:=NB472_483.out; have hnb42:=NB483_473.out; have hnc42:=NB473_483.out; have hcz43_0 : w39.cell? ⟨gb483,0,none⟩ = some (.slice none 0 0):=(blk_cell BK483.out 0).trans rfl; have hcz43_1 : w39.cell? ⟨gb483,1,none⟩ = some (.bool false):=(blk_cell BK483.out 1).trans rfl; have hfz43_0:=blk_frozen BK483.out 0; have hfz43_1:=blk_frozen BK483.out 1))
           go_loopg [8] k3 (fun kq v8 w' => ∃ (x8_4 : Int) (x484000_4 : List (S46)) (u484000 : Value),v8 = .int .i64 x8_4 ∧ Aside0 (rotalaw07_twin.l3 kq x6_3 x8_4 l0_0 l0_1 l0_2 x474000_1 x474001_2 x474002_3 x484000_4 ((rd_T44 l0_2 x6_3).f1) = some (r1,r2,r3)) ∧ Aside0 (kq ≤ k3) ∧ Aside0 (Kd.R (Kd.int .u32) 39 w' w.heap.size (fun _ => True) u474000 x474000_1) ∧ Aside0 (Kd.R k41 41 w' w.heap.size (fun _ => True) u474001 x474001_2) ∧ Aside0 (Kd.S k44 44 w' w.heap.size (fun k_ => some k_ ≠ (u484000 : Value).ownBlock ∧ k_ ≠ gb483) u474002 x474002_3) ∧ Aside0 (Kd.R k46 46 w' w.heap.size (fun _ => True) u484000 x484000_4) ∧ Aside0 (w'.heap[gb471]? = some (.cells #[(.slice A0_0 l0_0.length c0_0),(.slice A0_1 l0_1.length c0_1),(.slice (some ad482) l0_2.length c0_2)] 26 (0,0))) ∧ Aside0 (w'.heap[gb472]? = some (.cells #[(.slice none 0 0),(.slice none 0 0),(.slice none 0 0)] 26 (0,0))) ∧ Aside0 (w'.heap[gb473]? = some (.cells #[u474000,u474001,u474002] 26 (0,0))) ∧ Aside0 (w'.heap[gb483]? = some (.cells #[u484000,.bool ((rd_T44 l0_2 x6_3).f1)] 44 (0,0))) ∧ Aside0 (Below w.heap.size w w'))
           case atStart => exact ⟨(0),(([] : List (S46))),(.slice none 0 0),(by first | rfl | (simp; done) | (simp [*]; done)),H',⟨Nat.le_refl _⟩,⟨by (with_reducible repeat (first | apply Kd.R_alloc | apply Kd.R_drewN | apply Kd.R_drew)); exact Kd.R_mono (Kd.R_far (p:=⟨gb483,1,none⟩) (Kd.R_far (p:=⟨gb483,0,none⟩) (Kd.R_types HO_474000.out BK483.out (by decide)) (fun _ hk => hk.2) (.slice none 0 0)) (fun _ hk => hk.2) (.bool ((rd_T44 l0_2 x6_3).f1))) (fun _ hk => trivial)⟩,⟨by (with_reducible repeat (first | apply Kd.R_alloc | apply Kd.R_drewN | apply Kd.R_drew)); exact Kd.R_mono (Kd.R_far (p:=⟨gb483,1,none⟩) (Kd.R_far (p:=⟨gb483,0,none⟩) (Kd.R_types HO_474001.out BK483.out (by decide)) (fun _ hk => hk.2) (.slice none 0 0)) (fun _ hk => hk.2) (.bool ((rd_T44 l0_2 x6_3).f1))) (fun _ hk => trivial)⟩,⟨by (with_reducible repeat (first | apply Kd.S_alloc | apply Kd.S_drewN | apply Kd.S_drew)); exact Kd.S_mono (Kd.S_far (p:=⟨gb483,1,none⟩) (Kd.S_far (p:=⟨gb483,0,none⟩) (Kd.S_mono HO_474002.out (fun k_ hk => (⟨hk,hk.2⟩ : _ ∧ k_ ≠ gb483))) (fun _ hk => hk.2) (.slice none 0 0)) (fun _ hk => hk.2) (.bool ((rd_T44 l0_2 x6_3).f1))) (fun _ hk => ⟨(by simp [Value.ownBlock]),hk.1.2⟩)⟩,⟨by first | exact Kd.R_nil _ _ _ _ _ | exact Kd.N_nil _ _ _ _ _ | exact Kd.V_nil _ _ _ _ _ | exact Kd.Q_nil _ _ _ _ _ | exact Kd.S_nil _ _ _ _ _⟩,⟨by (with_reducible repeat (first | refine blk_drewN ?_ _ | refine blk_drew ?_ | refine blk_alloc ?_ _)); refine blk_far ?_ NB471_483.out _; (with_reducible repeat (first | refine blk_drewN ?_ _ | refine blk_drew ?_ | refine blk_alloc ?_ _)); refine blk_far ?_ NB471_483.out _; (with_reducible repeat (first | refine blk_drewN ?_ _ | refine blk_drew ?_ | refine blk_alloc ?_ _)); exact BK471.out⟩,⟨by (with_reducible repeat (first | refine blk_drewN ?_ _ | refine blk_drew ?_ | refine blk_alloc ?_ _)); refine blk_far ?_ NB472_483.out _; (with_reducible repeat (first | refine blk_drewN ?_ _ | refine blk_drew ?_ | refine blk_alloc ?_ _)); refine blk_far ?_ NB472_483.out _; (with_reducible repeat (first | refine blk_drewN ?_ _ | refine blk_drew ?_ | refine blk_alloc ?_ _)); exact BK472.out⟩,⟨by (with_reducible repeat (first | refine blk_drewN ?_ _ | refine blk_drew ?_ | refine blk_alloc ?_ _)); refine blk_far ?_ NB473_483.out _; (with_reducible repeat (first | refine blk_drewN ?_ _ | refine blk_drew ?_ | refine blk_alloc ?_ _)); refine blk_far ?_ NB473_483.out _; (with_reducible repeat (first | refine blk_drewN ?_ _ | refine blk_drew ?_ | refine blk_alloc ?_ _)); exact BK473.out⟩,⟨by (with_reducible repeat (first | refine blk_drewN ?_ _ | refine blk_drew ?_ | refine blk_alloc ?_ _)); refine blk_put (cs:=#[.slice none 0 0,.bool false]) ?_ 1 _ rfl; (with_reducible repeat (first | refine blk_drewN ?_ _ | refine blk_drew ?_ | refine blk_alloc ?_ _)); refine blk_put (cs:=#[.slice none 0 0,.bool false]) ?_ 0 _ rfl; (with_reducible repeat (first | refine blk_drewN ?_ _ | refine blk_drew ?_ | refine blk_alloc ?_ _)); exact BK483.out⟩,⟨by repeat (first | (with_reducible first | exact HB.out | apply below_alloc | apply pw_below_drewN | apply below_drew1 | refine below_set ?_ GE471.out | refine below_set ?_ GE472.out | refine below_set ?_ GE473.out | refine below_set ?_ GE483.out) | exact HB.out)⟩⟩
           case round =>
            clear H'
            try clear c1
            try clear c2
            try clear p2
            try clear c3
            try clear c4
            try clear p4
            try clear q4
            try clear hx4
            try clear c5
            try clear c6
            try clear p6
            try clear c8
            try clear c8b0
            try clear c9
            try clear c9b0
            try clear c10
            try clear c11
            try clear c12
            try clear c14
            try clear c18
            try clear c19
            try clear c21
            try clear c21b0
            try clear c22
            try clear c22b0
            try clear c23
            try clear c24
            try clear c25
            try clear c31
            try clear c32
            try clear c34
            try clear c34b0
            try clear c35
            try clear c35b0
            try clear c36
            try clear c37
            try clear c40
            try clear c41
            try clear c42
            try clear hcz13_0
            try clear hcz13_1
            try clear hcz13_2
            try clear hcz20_0
            try clear hcz20_1
            try clear hcz20_2
            try clear hcz26_0
            try clear hcz26_1
            try clear hcz26_2
            try clear hcz33_0
            try clear hcz33_1
            try clear hcz33_2
            try clear hcz38_0
            try clear hcz38_1
            try clear hcz38_2
            try clear hcz43_0
            try clear hcz43_1
            try clear hcz7_0
            try clear hcz7_1
            try clear hcz7_2
            try clear hfz13_0
            try clear hfz13_1
            try clear hfz13_2
            try clear hfz20_0
            try clear hfz20_1
            try clear hfz20_2
            try clear hfz26_0
            try clear hfz26_1
            try clear hfz26_2
            try clear hfz33_0
            try clear hfz33_1
            try clear hfz33_2
            try clear hfz38_0
            try clear hfz38_1
            try clear hfz38_2
            try clear hfz43_0
            try clear hfz43_1
            try clear hfz7_0
            try clear hfz7_1
            try clear hfz7_2
            try clear hx474_0
            try clear hx478_0
            try clear hx478_1
            try clear hx482_0
            try clear hx482_1
            try clear p2
            try clear p4
            try clear p474
            try clear p478
            try clear p482
            try clear p6
            try clear q4
            try clear q474
            try clear q478
            try clear q482
            obtain ⟨x8_4,x484000_4,u484000,rfl,HA,HK4,HO_474000,HO_474001,HO_474002,HO_484000,BK471,BK472,BK473,BK483,HB⟩:=hrel
            cases gk with
            | zero => exact absurd HA.out (by simp [rotalaw07_twin.l3])
            | succ k4 =>
             have H:=HA.out
             clear HA
             simp only [rotalaw07_twin.l3] at H
             by_cases c44 : 0 ≤ x6_3
             ·rw [if_pos c44] at H
              have c44b0 : decide (0 ≤ x6_3) = true:=decide_eq_true c44
              clear c44
              by_cases c45 : x6_3 < (l0_2.length : Int)
              ·rw [if_pos c45] at H
               have c45b0 : decide (x6_3 < (l0_2.length : Int)) = true:=decide_eq_true c45
               clear c45
               by_cases c46 : x8_4 < (((rd_T44 l0_2 x6_3).f0).length : Int)
               ·rw [if_pos c46] at H
                have c46b0 : decide (x8_4 < (((rd_T44 l0_2 x6_3).f0).length : Int)) = true:=decide_eq_true c46
                clear c46
                by_cases c47 : 0 ≤ x8_4
                ·rw [if_pos c47] at H
                 have c47b0 : decide (0 ≤ x8_4) = true:=decide_eq_true c47
                 clear c47
                 by_cases c48 : x484000_4.length < 4398046511104
                 ·rw [if_pos c48] at H
                  have LMc48:=Aside0.mk c48
                  clear c48
                  obtain ⟨y487,hy487⟩ : ∃ y_ : List (S46),y_ = (x484000_4 ++ [(⟨(rd_T46 ((rd_T44 l0_2 x6_3).f0) x8_4).f0,(rd_T46 ((rd_T44 l0_2 x6_3).f0) x8_4).f1,(rd_T46 ((rd_T44 l0_2 x6_3).f0) x8_4).f2,(rd_T46 ((rd_T44 l0_2 x6_3).f0) x8_4).f3⟩ : S46)]):=⟨_,rfl⟩
                  replace H : (rotalaw07_twin.l3 k4 x6_3 (wrap64 (x8_4 + 1)) l0_0 l0_1 l0_2 x474000_1 x474001_2 x474002_3 y487 ((rd_T44 l0_2 x6_3).f1)) = some (r1,r2,r3):=by first | (rw [hy487]; with_reducible exact H) | (have H2_:=(Option.bind_some _ _).symm.trans H; rw [hy487]; with_reducible exact H2_) | (have H2_:=(Option.bind_some _ _).symm.trans H; with_reducible exact H2_) | with_reducible exact H | (rw [hy487]; exact H) | exact H
                  have Ny487:=Aside0.mk hy487
                  clear hy487
                  have H':=Aside0.mk H
                  clear H
                  have hnb49:=NB471_472.out
                  have hnc49:=NB472_471.out
                  have hnb50:=NB471_473.out
                  have hnc50:=NB473_471.out
                  have hnb51:=NB471_483.out
                  have hnc51:=NB483_471.out
                  have hcz52_0 : wr.cell? ⟨gb471,0,none⟩ = some (.slice A0_0 l0_0.length c0_0):=(blk_cell BK471.out 0).trans rfl
                  have hcz52_1 : wr.cell? ⟨gb471,1,none⟩ = some (.slice A0_1 l0_1.length c0_1):=(blk_cell BK471.out 1).trans rfl
                  have hcz52_2 : wr.cell? ⟨gb471,2,none⟩ = some (.slice (some ad482) l0_2.length c0_2):=(blk_cell BK471.out 2).trans rfl
                  have hfz52_0:=blk_frozen BK471.out 0
                  have hfz52_1:=blk_frozen BK471.out 1
                  have hfz52_2:=blk_frozen BK471.out 2
                  have p484 : 0 ≤ (x6_3 : Int):=of_decide_eq_true (by first | (with_reducible assumption) | assumption)
                  have q484 : x6_3 < (l0_2.length : Int):=of_decide_eq_true (by first | (with_reducible assumption) | assumption)
                  obtain ⟨ad484,A484_0,c484_0,e484,hx484_0,hx484_1,hl484_0,hi484_0⟩:=at_T44 HR0_2.out x6_3 p484 q484
                  obtain rfl : ad482 = ad484:=(by injection e484)
                  replace hx484_0:=(HB.out.cell (World.block_lt_of_cell? w _ hx484_0)).trans hx484_0
                  replace hx484_1:=(HB.out.cell (World.block_lt_of_cell? w _ hx484_1)).trans hx484_1
                  have HR484_0:=Aside0.mk hi484_0
                  have HC484_0:=Aside0.mk hl484_0
                  clear hi484_0 hl484_0
                  replace p484:=eq_true p484
                  replace q484:=eq_true q484
                  try go_wp2
                  have n0_:=Aside0.mk (Kd.R_drew HO_474000.out)
                  have n1_:=Aside0.mk (Kd.R_drew HO_474001.out)
                  have n2_:=Aside0.mk (Kd.S_drew HO_474002.out)
                  have n3_:=Aside0.mk (Kd.R_drew HO_484000.out)
                  have n4_:=Aside0.mk (blk_drew BK471.out)
                  have n5_:=Aside0.mk (blk_drew BK472.out)
                  have n6_:=Aside0.mk (blk_drew BK473.out)
                  have n7_:=Aside0.mk (blk_drew BK483.out)
                  have n8_:=Aside0.mk (below_drew1 HB.out)
                  clear HO_474000
                  clear HO_474001
                  clear HO_474002
                  clear HO_484000
                  clear BK471
                  clear BK472
                  clear BK473
                  clear BK483
                  clear HB
                  have HO_474000:=n0_
                  have HO_474001:=n1_
                  have HO_474002:=n2_
                  have HO_484000:=n3_
                  have BK471:=n4_
                  have BK472:=n5_
                  have BK473:=n6_
                  have BK483:=n7_
                  have HB:=n8_
                  clear n0_ n1_ n2_ n3_ n4_ n5_ n6_ n7_ n8_
                  have p485 : 0 ≤ (x6_3 : Int):=of_decide_eq_true (by first | (with_reducible assumption) | assumption)
                  have q485 : x6_3 < (l0_2.length : Int):=of_decide_eq_true (by first | (with_reducible assumption) | assumption)
                  obtain ⟨ad485,A485_0,c485_0,e485,hx485_0,hx485_1,hl485_0,hi485_0⟩:=at_T44 HR0_2.out x6_3 p485 q485
                  have hw485_1:=hx485_1
                  have hw485_0:=hx485_0
                  obtain rfl : ad482 = ad485:=(by injection e485)
                  replace hx485_0:=(HB.out.cell (World.block_lt_of_cell? w _ hx485_0)).trans hx485_0
                  replace hx485_1:=(HB.out.cell (World.block_lt_of_cell? w _ hx485_1)).trans hx485_1
                  have HR485_0:=Aside0.mk hi485_0
                  have HC485_0:=Aside0.mk hl485_0
                  clear hi485_0 hl485_0
                  replace p485:=eq_true p485
                  replace q485:=eq_true q485
                  have p486 : 0 ≤ (x8_4 : Int):=of_decide_eq_true (by first | (with_reducible assumption) | assumption)
                  have q486 : x8_4 < (((rd_T44 l0_2 x6_3).f0).length : Int):=of_decide_eq_true (by first | (with_reducible assumption) | assumption)
                  obtain ⟨ad486,e486,hx486_0,hx486_1,hx486_2,hx486_3⟩:=at_T46 HR485_0.out x8_4 p486 q486
                  have hw486_3:=hx486_3
                  have hw486_2:=hx486_2
                  have hw486_1:=hx486_1
                  have hw486_0:=hx486_0
                  cases e486
                  replace hx486_0:=(HB.out.cell (World.block_lt_of_cell? w _ hx486_0)).trans hx486_0
                  replace hx486_1:=(HB.out.cell (World.block_lt_of_cell? w _ hx486_1)).trans hx486_1
                  replace hx486_2:=(HB.out.cell (World.block_lt_of_cell? w _ hx486_2)).trans hx486_2
                  replace hx486_3:=(HB.out.cell (World.block_lt_of_cell? w _ hx486_3)).trans hx486_3
                  replace p486:=eq_true p486
                  replace q486:=eq_true q486
                  refine start_ (n:=15) (S:=fun w' => w'.cell? ⟨gb483,0,none⟩ = some (u484000) ∧ w'.cell? ⟨gb483,1,none⟩ = some (.bool ((rd_T44 l0_2 x6_3).f1)) ∧ w'.cell? ⟨gb471,0,none⟩ = some (.slice A0_0 l0_0.length c0_0) ∧ w'.cell? ⟨gb471,1,none⟩ = some (.slice A0_1 l0_1.length c0_1) ∧ w'.cell? ⟨gb471,2,none⟩ = some (.slice (some ad482) l0_2.length c0_2) ∧ w'.cell? (ad482.add ((x6_3).toNat * 2)) = some (.slice (some ad486) ((rd_T44 l0_2 x6_3).f0).length c485_0) ∧ w'.cell? ⟨(ad482.add ((x6_3).toNat * 2)).block,(ad482.add ((x6_3).toNat * 2)).off + 1,none⟩ = some (.bool ((rd_T44 l0_2 x6_3).f1)) ∧ w'.cell? (ad486.add ((x8_4).toNat * 4)) = some (.bool ((rd_T46 ((rd_T44 l0_2 x6_3).f0) x8_4).f0)) ∧ w'.cell? ⟨(ad486.add ((x8_4).toNat * 4)).block,(ad486.add ((x8_4).toNat * 4)).off + 1,none⟩ = some (.int .i64 ((rd_T46 ((rd_T44 l0_2 x6_3).f0) x8_4).f1)) ∧ w'.cell? ⟨(ad486.add ((x8_4).toNat * 4)).block,(ad486.add ((x8_4).toNat * 4)).off + 2,none⟩ = some (.int .i64 ((rd_T46 ((rd_T44 l0_2 x6_3).f0) x8_4).f2)) ∧ w'.cell? ⟨(ad486.add ((x8_4).toNat * 4)).block,(ad486.add ((x8_4).toNat * 4)).off + 3,none⟩ = some (.int .i64 ((rd_T46 ((rd_T44 l0_2 x6_3).f0) x8_4).f3))) (ds:=[14]) #[false,false,false,false,false,false,false,false,false,false,false,false,false,false,false] (by kernel_rfl) rfl rfl ⟨(blk_cell BK483.out 0).trans rfl,(blk_cell BK483.out 1).trans rfl,(blk_cell BK471.out 0).trans rfl,(blk_cell BK471.out 1).trans rfl,(blk_cell BK471.out 2).trans rfl,((HB.out.cell (World.block_lt_of_cell? w _ hw485_0)).trans hw485_0),((HB.out.cell (World.block_lt_of_cell? w _ hw485_1)).trans hw485_1),((HB.out.cell (World.block_lt_of_cell? w _ hw486_0)).trans hw486_0),((HB.out.cell (World.block_lt_of_cell? w _ hw486_1)).trans hw486_1),((HB.out.cell (World.block_lt_of_cell? w _ hw486_2)).trans hw486_2),((HB.out.cell (World.block_lt_of_cell? w _ hw486_3)).trans hw486_3)⟩ (fun hHeld => ?_); refine with_tabW rotalaw07_twin.tab17 rotalaw07_twin.bits17 (fun HT_ HW_ => ?_)
                  generalize wr.drew = w53 at HO_474000 HO_474001 HO_474002 HO_484000 BK471 BK472 BK473 BK483 HB HR485_0 hx485_0 hx485_1 hx486_0 hx486_1 hx486_2 hx486_3 hHeld ⊢
                  refine pure_ (i:=0) (N:=some 69) (v:=?_) (a':=?_) #[true,false,false,false,false,false,false,false,false,false,false,false,false,false,false] rfl rfl (any_of HT_.out (by kernel_rfl)) (fun _ _ _ h => h) (Or.inl ⟨by rfl,?_⟩) ?_ ?_
                  rotate_left
                  ·intro w'
                   go_simp
                   with_reducible rfl
                  rotate_left
                  ·simp only [Act.put,sAz,sCz,sCs,i64_w,i32_w]
                   rfl
                  refine pure_ (i:=2) (N:=some 71) (v:=?_) (a':=?_) #[true,false,true,false,false,false,false,false,false,false,false,false,false,false,false] rfl rfl (any_of HT_.out (by kernel_rfl)) (fun _ _ _ h => h) (Or.inl ⟨by rfl,?_⟩) ?_ ?_
                  rotate_left
                  ·intro w'
                   go_simp
                   with_reducible rfl
                  rotate_left
                  ·simp only [Act.put,sAz,sCz,sCs,i64_w,i32_w]
                   rfl
                  refine pure_ (i:=4) (N:=some 73) (v:=?_) (a':=?_) #[true,false,true,false,true,false,false,false,false,false,false,false,false,false,false] rfl rfl (any_of HT_.out (by kernel_rfl)) (fun _ _ _ h => h) (Or.inl ⟨by rfl,?_⟩) ?_ ?_
                  rotate_left
                  ·intro w'
                   go_simp
                   with_reducible rfl
                  rotate_left
                  ·simp only [Act.put,sAz,sCz,sCs,i64_w,i32_w]
                   rfl
                  refine pure_ (i:=8) (N:=some 77) (v:=?_) (a':=?_) #[true,false,true,false,true,false,false,false,true,false,false,false,false,false,false] rfl rfl (any_of HT_.out (by kernel_rfl)) (fun _ _ _ h => h) (Or.inl ⟨by rfl,?_⟩) ?_ ?_
                  rotate_left
                  ·intro w'
                   go_simp
                   with_reducible rfl
                  rotate_left
                  ·simp only [Act.put,sAz,sCz,sCs,i64_w,i32_w]
                   rfl
                  refine take_ (i:=1) (N:=some 70) (v:=?_) (a':=?_) #[true,true,true,false,true,false,false,false,true,false,false,false,false,false,false] rfl rfl (take_ofW HT_.out HW_.out (by kernel_rfl)) (fun _ _ _ h => h) (Or.inl ⟨by rfl,?_⟩) hHeld ?_ ?_
                  rotate_left
                  ·rintro w' ⟨s0,s1,s2,s3,s4,s5,s6,s7,s8,s9,s10⟩
                   go_simp
                   with_reducible rfl
                  rotate_left
                  ·simp only [Act.put,sAz,sCz,sCs,i64_w,i32_w]
                   rfl
                  refine take_ (i:=3) (N:=some 72) (v:=?_) (a':=?_) #[true,true,true,true,true,false,false,false,true,false,false,false,false,false,false] rfl rfl (take_ofW HT_.out HW_.out (by kernel_rfl)) (fun _ _ _ h => h) (Or.inl ⟨by rfl,?_⟩) hHeld ?_ ?_
                  rotate_left
                  ·rintro w' ⟨s0,s1,s2,s3,s4,s5,s6,s7,s8,s9,s10⟩
                   go_simp
                   with_reducible rfl
                  rotate_left
                  ·simp only [Act.put,sAz,sCz,sCs,i64_w,i32_w]
                   rfl
                  refine pure_ (i:=5) (N:=some 74) (v:=?_) (a':=?_) #[true,true,true,true,true,true,false,false,true,false,false,false,false,false,false] rfl rfl (any_of HT_.out (by kernel_rfl)) (fun _ _ _ h => h) (Or.inl ⟨by rfl,?_⟩) ?_ ?_
                  rotate_left
                  ·intro w'
                   go_simp
                   with_reducible rfl
                  rotate_left
                  ·simp only [Act.put,sAz,sCz,sCs,i64_w,i32_w]
                   rfl
                  refine pure_ (i:=6) (N:=some 75) (v:=?_) (a':=?_) #[true,true,true,true,true,true,true,false,true,false,false,false,false,false,false] rfl rfl (any_of HT_.out (by kernel_rfl)) (fun _ _ _ h => h) (Or.inl ⟨by rfl,?_⟩) ?_ ?_
                  rotate_left
                  ·intro w'
                   go_simp
                   with_reducible rfl
                  rotate_left
                  ·simp only [Act.put,sAz,sCz,sCs,i64_w,i32_w]
                   rfl
                  refine take_ (i:=7) (N:=some 76) (v:=?_) (a':=?_) #[true,true,true,true,true,true,true,true,true,false,false,false,false,false,false] rfl rfl (take_ofW HT_.out HW_.out (by kernel_rfl)) (fun _ _ _ h => h) (Or.inl ⟨by rfl,?_⟩) hHeld ?_ ?_
                  rotate_left
                  ·rintro w' ⟨s0,s1,s2,s3,s4,s5,s6,s7,s8,s9,s10⟩
                   go_simp
                   with_reducible rfl
                  rotate_left
                  ·simp only [Act.put,sAz,sCz,sCs,i64_w,i32_w]
                   rfl
                  refine pure_ (i:=9) (N:=some 78) (v:=?_) (a':=?_) #[true,true,true,true,true,true,true,true,true,true,false,false,false,false,false] rfl rfl (any_of HT_.out (by kernel_rfl)) (fun _ _ _ h => h) (Or.inl ⟨by rfl,?_⟩) ?_ ?_
                  rotate_left
                  ·intro w'
                   go_simp
                   with_reducible rfl
                  rotate_left
                  ·simp only [Act.put,sAz,sCz,sCs,i64_w,i32_w]
                   rfl
                  refine take_ (i:=10) (N:=some 79) (v:=?_) (a':=?_) #[true,true,true,true,true,true,true,true,true,true,true,false,false,false,false] rfl rfl (take_ofW HT_.out HW_.out (by kernel_rfl)) (fun _ _ _ h => h) (Or.inl ⟨by rfl,?_⟩) hHeld ?_ ?_
                  rotate_left
                  ·rintro w' ⟨s0,s1,s2,s3,s4,s5,s6,s7,s8,s9,s10⟩
                   go_simp
                   with_reducible rfl
                  rotate_left
                  ·simp only [Act.put,sAz,sCz,sCs,i64_w,i32_w]
                   rfl
                  refine one_ (i:=11) (N:=some 80) #[true,true,true,true,true,true,true,true,true,true,true,true,false,false,false] rfl rfl (one_of HT_.out (by kernel_rfl)) (by decide) (fun K hK => ?_)
                  refine value_ (w1:=?_) (v:=?_) (by rfl) rfl ?_ ?_
                  rotate_left 2
                  ·go_simp
                   constructor
                   ·rfl
                   ·rfl
                  refine hK.out _ _ ⟨(blk_cell (blk_alloc BK483.out _) 0).trans rfl,(blk_cell (blk_alloc BK483.out _) 1).trans rfl,(blk_cell (blk_alloc BK471.out _) 0).trans rfl,(blk_cell (blk_alloc BK471.out _) 1).trans rfl,(blk_cell (blk_alloc BK471.out _) 2).trans rfl,(World.cell?_alloc_lt _ _ _ (World.block_lt_of_cell? _ _ (((HB.out.cell (World.block_lt_of_cell? w _ hw485_0)).trans hw485_0)))).trans (((HB.out.cell (World.block_lt_of_cell? w _ hw485_0)).trans hw485_0)),(World.cell?_alloc_lt _ _ _ (World.block_lt_of_cell? _ _ (((HB.out.cell (World.block_lt_of_cell? w _ hw485_1)).trans hw485_1)))).trans (((HB.out.cell (World.block_lt_of_cell? w _ hw485_1)).trans hw485_1)),(World.cell?_alloc_lt _ _ _ (World.block_lt_of_cell? _ _ (((HB.out.cell (World.block_lt_of_cell? w _ hw486_0)).trans hw486_0)))).trans (((HB.out.cell (World.block_lt_of_cell? w _ hw486_0)).trans hw486_0)),(World.cell?_alloc_lt _ _ _ (World.block_lt_of_cell? _ _ (((HB.out.cell (World.block_lt_of_cell? w _ hw486_1)).trans hw486_1)))).trans (((HB.out.cell (World.block_lt_of_cell? w _ hw486_1)).trans hw486_1)),(World.cell?_alloc_lt _ _ _ (World.block_lt_of_cell? _ _ (((HB.out.cell (World.block_lt_of_cell? w _ hw486_2)).trans hw486_2)))).trans (((HB.out.cell (World.block_lt_of_cell? w _ hw486_2)).trans hw486_2)),(World.cell?_alloc_lt _ _ _ (World.block_lt_of_cell? _ _ (((HB.out.cell (World.block_lt_of_cell? w _ hw486_3)).trans hw486_3)))).trans (((HB.out.cell (World.block_lt_of_cell? w _ hw486_3)).trans hw486_3))⟩ (fun hHeld => ?_)
                  clear hK K
                  refine norm_ (a':=?_) ?_ ?_
                  rotate_left
                  ·show Act.put _ (some 80) _ = _
                   simp only [Act.put,sAz,sCz,sCs,i64_w,i32_w]
                   rfl
                  refine one_ (i:=12) (N:=some 81) #[true,true,true,true,true,true,true,true,true,true,true,true,true,false,false] rfl rfl (one_of HT_.out (by kernel_rfl)) (by decide) (fun K hK => ?_)
                  refine Kd.R_append_step k46 (w0:=w) w.heap.size (by rfl) (.tmp 70) (.tmp 80) 42 46 (.agg #[(.bool false),(.int .i64 0),(.int .i64 0),(.int .i64 0)]) 32 rfl Tryz.underlying42 info46 rfl (by decide) (by omega) u484000 x484000_4 (⟨(rd_T46 ((rd_T44 l0_2 x6_3).f0) x8_4).f0,(rd_T46 ((rd_T44 l0_2 x6_3).f0) x8_4).f1,(rd_T46 ((rd_T44 l0_2 x6_3).f0) x8_4).f2,(rd_T46 ((rd_T44 l0_2 x6_3).f0) x8_4).f3⟩ : S46) [.bool ((rd_T46 ((rd_T44 l0_2 x6_3).f0) x8_4).f0),.int .i64 ((rd_T46 ((rd_T44 l0_2 x6_3).f0) x8_4).f1),.int .i64 ((rd_T46 ((rd_T44 l0_2 x6_3).f0) x8_4).f2),.int .i64 ((rd_T46 ((rd_T44 l0_2 x6_3).f0) x8_4).f3)] (fun _ => True) (fun _ => False) rfl rfl ?aP (fun _ hk => hk.elim) ?aF ?aO ?aB ?aS ?aL ?_
                  (case aP => exact k46_mkM _ _ _ (⟨(rd_T46 ((rd_T44 l0_2 x6_3).f0) x8_4).f0,(rd_T46 ((rd_T44 l0_2 x6_3).f0) x8_4).f1,(rd_T46 ((rd_T44 l0_2 x6_3).f0) x8_4).f2,(rd_T46 ((rd_T44 l0_2 x6_3).f0) x8_4).f3⟩ : S46))
                  (case aB => exact (by repeat (first | (with_reducible first | exact HB.out | apply below_alloc | apply pw_below_drewN | apply below_drew1 | refine below_set ?_ GE471.out | refine below_set ?_ GE472.out | refine below_set ?_ GE473.out | refine below_set ?_ GE483.out) | exact HB.out)))
                  (case aF => exact (fun _ _ => trivial))
                  (case aO => exact (by (with_reducible repeat (first | apply Kd.R_alloc | apply Kd.R_drewN | apply Kd.R_drew)); exact HO_484000.out))
                  (case aS => exact (below_size (by repeat (first | (with_reducible first | exact HB.out | apply below_alloc | apply pw_below_drewN | apply below_drew1 | refine below_set ?_ GE471.out | refine below_set ?_ GE472.out | refine below_set ?_ GE473.out | refine below_set ?_ GE483.out) | exact HB.out))))
                  (case aL => have:=LMc48.out; omega)
                  intro v488 w54 ho hb hg hat
                  rw [← Ny487.out] at ho
                  have n0_:=Aside0.mk (Kd.R_over' (by (with_reducible repeat (first | apply Kd.R_alloc | apply Kd.R_drewN | apply Kd.R_drew)); exact HO_474000.out) (Kd.R_typed (by (with_reducible repeat (first | apply Kd.R_alloc | apply Kd.R_drewN | apply Kd.R_drew)); exact HO_484000.out)) (by decide) hg)
                  have n1_:=Aside0.mk (Kd.R_over' (by (with_reducible repeat (first | apply Kd.R_alloc | apply Kd.R_drewN | apply Kd.R_drew)); exact HO_474001.out) (Kd.R_typed (by (with_reducible repeat (first | apply Kd.R_alloc | apply Kd.R_drewN | apply Kd.R_drew)); exact HO_484000.out)) (by decide) hg)
                  have n2_:=Aside0.mk (Kd.S_after (ok:=(fun k_ => k_ ≠ gb483)) (by (with_reducible repeat (first | apply Kd.S_alloc | apply Kd.S_drewN | apply Kd.S_drew)); exact Kd.S_mono HO_474002.out (fun _ hk => ⟨hk.2,hk.1⟩)) hg hat)
                  have n3_:=Aside0.mk (blk_grown (g:=gb471) (o:=.cells #[.slice A0_0 l0_0.length c0_0,.slice A0_1 l0_1.length c0_1,.slice (some ad482) l0_2.length c0_2] 26 (0,0)) (by (with_reducible repeat (first | refine blk_drewN ?_ _ | refine blk_drew ?_ | refine blk_alloc ?_ _)); exact BK471.out) hg (Kd.R_ne HO_484000.out BK471.out (by decide)))
                  have n4_:=Aside0.mk (blk_grown (g:=gb472) (o:=.cells #[.slice none 0 0,.slice none 0 0,.slice none 0 0] 26 (0,0)) (by (with_reducible repeat (first | refine blk_drewN ?_ _ | refine blk_drew ?_ | refine blk_alloc ?_ _)); exact BK472.out) hg (Kd.R_ne HO_484000.out BK472.out (by decide)))
                  have n5_:=Aside0.mk (blk_grown (g:=gb473) (o:=.cells #[u474000,u474001,u474002] 26 (0,0)) (by (with_reducible repeat (first | refine blk_drewN ?_ _ | refine blk_drew ?_ | refine blk_alloc ?_ _)); exact BK473.out) hg (Kd.R_ne HO_484000.out BK473.out (by decide)))
                  have n6_:=Aside0.mk (blk_grown (g:=gb483) (o:=.cells #[u484000,.bool ((rd_T44 l0_2 x6_3).f1)] 44 (0,0)) (by (with_reducible repeat (first | refine blk_drewN ?_ _ | refine blk_drew ?_ | refine blk_alloc ?_ _)); exact BK483.out) hg (Kd.R_ne HO_484000.out BK483.out (by decide)))
                  have n7_:=Aside0.mk (hb)
                  have n8_:=Aside0.mk (ho)
                  clear HO_474000
                  clear HO_474001
                  clear HO_474002
                  clear BK471
                  clear BK472
                  clear BK473
                  clear BK483
                  clear HB
                  clear HO_484000
                  have HO_474000:=n0_
                  have HO_474001:=n1_
                  have HO_474002:=n2_
                  have BK471:=n3_
                  have BK472:=n4_
                  have BK473:=n5_
                  have BK483:=n6_
                  have HB:=n7_
                  have HO489:=n8_
                  clear n0_ n1_ n2_ n3_ n4_ n5_ n6_ n7_ n8_
                  clear ho hb hg hat
                  obtain ⟨Ao55,co55,eo55⟩:=Kd.R_slice HO489.out
                  (first | subst eo55 | (injection eo55 with f1_ f2_ f3_; have f4_:=f1_.symm; have f5_:=f3_.symm; clear f1_ f2_ f3_; subst f4_; subst f5_))
                  refine hK.out _ _ ⟨(blk_cell BK483.out 0).trans rfl,(blk_cell BK483.out 1).trans rfl,(blk_cell BK471.out 0).trans rfl,(blk_cell BK471.out 1).trans rfl,(blk_cell BK471.out 2).trans rfl,((HB.out.cell (World.block_lt_of_cell? w _ hw485_0)).trans hw485_0),((HB.out.cell (World.block_lt_of_cell? w _ hw485_1)).trans hw485_1),((HB.out.cell (World.block_lt_of_cell? w _ hw486_0)).trans hw486_0),((HB.out.cell (World.block_lt_of_cell? w _ hw486_1)).trans hw486_1),((HB.out.cell (World.block_lt_of_cell? w _ hw486_2)).trans hw486_2),((HB.out.cell (World.block_lt_of_cell? w _ hw486_3)).trans hw486_3)⟩ (fun hHeld => ?_)
                  clear hK K
                  refine norm_ (a':=?_) ?_ ?_
                  rotate_left
                  ·show Act.put _ (some 81) _ = _
                   simp only [Act.put,sAz,sCz,sCs,i64_w,i32_w]
                   rfl
                  refine pure_ (i:=13) (N:=some 82) (v:=?_) (a':=?_) #[true,true,true,true,true,true,true,true,true,true,true,true,true,true,false] rfl rfl (any_of HT_.out (by kernel_rfl)) (fun _ _ _ h => h) (Or.inl ⟨by rfl,?_⟩) ?_ ?_
                  rotate_left
                  ·intro w'
                   go_simp
                   with_reducible rfl
                  rotate_left
                  ·simp only [Act.put,sAz,sCz,sCs,i64_w,i32_w]
                   rfl
                  refine last_ (i:=14) (N:=none) #[true,true,true,true,true,true,true,true,true,true,true,true,true,true,true] rfl rfl (one_of HT_.out (by kernel_rfl)) (by decide) (fun K hK => ?_)
                  have hs56 : w54.cell? ⟨gb483,0,none⟩ = some (u484000):=(blk_cell BK483.out 0).trans rfl
                  have hfs56:=blk_frozen BK483.out 0
                  have hns56_0:=NB471_483.out
                  have hns56_1:=NB472_483.out
                  have hns56_2:=NB473_483.out
                  have hms56_0:=NB483_471.out
                  have hms56_1:=NB483_472.out
                  have hms56_2:=NB483_473.out
                  refine skip_ (w1:=?_) (by rfl) rfl ?_ ?_
                  rotate_left
                  ·go_simp
                   rfl
                  refine hK.out _ _ ?_
                  clear hK K
                  refine done_ (done_of HT_.out (by kernel_rfl)) ?_
                  try go_wp2
                  go_roundg k4
                  case measure => have:=HK1.out; have:=HK2.out; have:=HK3.out; have:=HK4.out; omega
                  case rel => exact ⟨(wrap64 (x8_4 + 1)),(y487),(.slice Ao55 y487.length co55),(by first | rfl | (simp; done) | (simp [*]; done)),H',⟨by have:=HK1.out; have:=HK2.out; have:=HK3.out; have:=HK4.out; omega⟩,⟨by (with_reducible repeat (first | apply Kd.R_alloc | apply Kd.R_drewN | apply Kd.R_drew)); exact Kd.R_mono (Kd.R_far (p:=⟨gb483,0,none⟩) (Kd.R_types HO_474000.out BK483.out (by decide)) (fun _ hk => hk.2) (.slice Ao55 y487.length co55)) (fun _ hk => trivial)⟩,⟨by (with_reducible repeat (first | apply Kd.R_alloc | apply Kd.R_drewN | apply Kd.R_drew)); exact Kd.R_mono (Kd.R_far (p:=⟨gb483,0,none⟩) (Kd.R_types HO_474001.out BK483.out (by decide)) (fun _ hk => hk.2) (.slice Ao55 y487.length co55)) (fun _ hk => trivial)⟩,⟨by (with_reducible repeat (first | apply Kd.S_alloc | apply Kd.S_drewN | apply Kd.S_drew)); exact Kd.S_mono (Kd.S_far (p:=⟨gb483,0,none⟩) (Kd.S_mono HO_474002.out (fun k_ hk => (⟨hk,hk.1⟩ : _ ∧ k_ ≠ gb483))) (fun _ hk => hk.2) (.slice Ao55 y487.length co55)) (fun _ hk => ⟨hk.1.2,hk.1.1⟩)⟩,⟨by (with_reducible repeat (first | apply Kd.R_alloc | apply Kd.R_drewN | apply Kd.R_drew)); exact Kd.R_mono (Kd.R_far (p:=⟨gb483,0,none⟩) (Kd.R_types HO489.out BK483.out (by decide)) (fun _ hk => hk.2) (.slice Ao55 y487.length co55)) (fun _ hk => trivial)⟩,⟨by (with_reducible repeat (first | refine blk_drewN ?_ _ | refine blk_drew ?_ | refine blk_alloc ?_ _)); refine blk_far ?_ NB471_483.out _; (with_reducible repeat (first | refine blk_drewN ?_ _ | refine blk_drew ?_ | refine blk_alloc ?_ _)); exact BK471.out⟩,⟨by (with_reducible repeat (first | refine blk_drewN ?_ _ | refine blk_drew ?_ | refine blk_alloc ?_ _)); refine blk_far ?_ NB472_483.out _; (with_reducible repeat (first | refine blk_drewN ?_ _ | refine blk_drew ?_ | refine blk_alloc ?_ _)); exact BK472.out⟩,⟨by (with_reducible repeat (first | refine blk_drewN ?_ _ | refine blk_drew ?_ | refine blk_alloc ?_ _)); refine blk_far ?_ NB473_483.out _; (with_reducible repeat (first | refine blk_drewN ?_ _ | refine blk_drew ?_ | refine blk_alloc ?_ _)); exact BK473.out⟩,⟨by (with_reducible repeat (first | refine blk_drewN ?_ _ | refine blk_drew ?_ | refine blk_alloc ?_ _)); refine blk_put (cs:=#[u484000,.bool ((rd_T44 l0_2 x6_3).f1)]) ?_ 0 _ rfl; (with_reducible repeat (first | refine blk_drewN ?_ _ | refine blk_drew ?_ | refine blk_alloc ?_ _)); exact BK483.out⟩,⟨by repeat (first | (with_reducible first | exact HB.out | apply below_alloc | apply pw_below_drewN | apply below_drew1 | refine below_set ?_ GE471.out | refine below_set ?_ GE472.out | refine below_set ?_ GE473.out | refine below_set ?_ GE483.out) | exact HB.out)⟩⟩
                 ·rw [if_neg c48] at H
                  exact absurd H (by simp)
                ·rw [if_neg c47] at H
                 exact absurd H (by simp)
               ·rw [if_neg c46] at H
                have c46b0 : decide (x8_4 < (((rd_T44 l0_2 x6_3).f0).length : Int)) = false:=decide_eq_false c46
                clear c46
                by_cases c57 : x474002_3.length < 4398046511104
                ·rw [if_pos c57] at H
                 have LMc57:=Aside0.mk c57
                 clear c57
                 obtain ⟨y490,hy490⟩ : ∃ y_ : List (S44),y_ = (x474002_3 ++ [(⟨x484000_4,((rd_T44 l0_2 x6_3).f1)⟩ : S44)]):=⟨_,rfl⟩
                 replace H : (rotalaw07_twin.l2 k4 (wrap64 (x6_3 + 1)) l0_0 l0_1 l0_2 x474000_1 x474001_2 y490) = some (r1,r2,r3):=by first | (rw [hy490]; with_reducible exact H) | (have H2_:=(Option.bind_some _ _).symm.trans H; rw [hy490]; with_reducible exact H2_) | (have H2_:=(Option.bind_some _ _).symm.trans H; with_reducible exact H2_) | with_reducible exact H | (rw [hy490]; exact H) | exact H
                 have Ny490:=Aside0.mk hy490
                 clear hy490
                 have H':=Aside0.mk H
                 clear H
                 have hnb58:=NB471_472.out
                 have hnc58:=NB472_471.out
                 have hnb59:=NB471_473.out
                 have hnc59:=NB473_471.out
                 have hnb60:=NB471_483.out
                 have hnc60:=NB483_471.out
                 have hcz61_0 : wr.cell? ⟨gb471,0,none⟩ = some (.slice A0_0 l0_0.length c0_0):=(blk_cell BK471.out 0).trans rfl
                 have hcz61_1 : wr.cell? ⟨gb471,1,none⟩ = some (.slice A0_1 l0_1.length c0_1):=(blk_cell BK471.out 1).trans rfl
                 have hcz61_2 : wr.cell? ⟨gb471,2,none⟩ = some (.slice (some ad482) l0_2.length c0_2):=(blk_cell BK471.out 2).trans rfl
                 have hfz61_0:=blk_frozen BK471.out 0
                 have hfz61_1:=blk_frozen BK471.out 1
                 have hfz61_2:=blk_frozen BK471.out 2
                 have p484 : 0 ≤ (x6_3 : Int):=of_decide_eq_true (by first | (with_reducible assumption) | assumption)
                 have q484 : x6_3 < (l0_2.length : Int):=of_decide_eq_true (by first | (with_reducible assumption) | assumption)
                 obtain ⟨ad484,A484_0,c484_0,e484,hx484_0,hx484_1,hl484_0,hi484_0⟩:=at_T44 HR0_2.out x6_3 p484 q484
                 obtain rfl : ad482 = ad484:=(by injection e484)
                 replace hx484_0:=(HB.out.cell (World.block_lt_of_cell? w _ hx484_0)).trans hx484_0
                 replace hx484_1:=(HB.out.cell (World.block_lt_of_cell? w _ hx484_1)).trans hx484_1
                 have HR484_0:=Aside0.mk hi484_0
                 have HC484_0:=Aside0.mk hl484_0
                 clear hi484_0 hl484_0
                 replace p484:=eq_true p484
                 replace q484:=eq_true q484
                 have hnb62:=NB473_472.out
                 have hnc62:=NB472_473.out
                 have hnb63:=NB473_483.out
                 have hnc63:=NB483_473.out
                 have hcz64_0 : wr.cell? ⟨gb473,0,none⟩ = some (u474000):=(blk_cell BK473.out 0).trans rfl
                 have hcz64_1 : wr.cell? ⟨gb473,1,none⟩ = some (u474001):=(blk_cell BK473.out 1).trans rfl
                 have hcz64_2 : wr.cell? ⟨gb473,2,none⟩ = some (u474002):=(blk_cell BK473.out 2).trans rfl
                 have hfz64_0:=blk_frozen BK473.out 0
                 have hfz64_1:=blk_frozen BK473.out 1
                 have hfz64_2:=blk_frozen BK473.out 2
                 have hnb65:=NB483_472.out
                 have hnc65:=NB472_483.out
                 have hcz66_0 : wr.cell? ⟨gb483,0,none⟩ = some (u484000):=(blk_cell BK483.out 0).trans rfl
                 have hcz66_1 : wr.cell? ⟨gb483,1,none⟩ = some (.bool ((rd_T44 l0_2 x6_3).f1)):=(blk_cell BK483.out 1).trans rfl
                 have hfz66_0:=blk_frozen BK483.out 0
                 have hfz66_1:=blk_frozen BK483.out 1
                 obtain ⟨Ao68,co68,eo68⟩:=Kd.R_slice HO_484000.out
                 subst eo68
                 go_wp2_with (first | ((with_reducible refine gate_builtin (b:=.append) (xs:=#[.tmp 84,.tmp 86]) rfl ?_); at_builtin; refine Kd.S_append k44 (w0:=w) w.heap.size rfl (.tmp 84) (.tmp 86) 24 44 (.agg #[(.slice none 0 0),(.bool false)]) 32 rfl Tryz.underlying24 info44 rfl (by decide) (by omega) u474002 x474002_3 (⟨x484000_4,((rd_T44 l0_2 x6_3).f1)⟩ : S44) [.slice Ao68 x484000_4.length co68,.bool ((rd_T44 l0_2 x6_3).f1)] (fun k_ => k_ ≠ gb483) (fun k_ => some k_ = (.slice Ao68 x484000_4.length co68 : Value).ownBlock) rfl rfl ?aP (fun k_ hk_ => ((Kd.R_mono (ok':=fun k_ => ((fun k_ => k_ ≠ gb483)) k_ ∧ some k_ ≠ (u474002 : Value).ownBlock) (Kd.R_types (Kd.R_apart' (HO_484000.out) (Kd.S_typed HO_474002.out) (by decide)) BK483.out (by decide)) (fun k_ hk => ⟨hk.2,hk.1.2⟩))).1 k_ hk_.symm) ?aF ?aO ?aB ?aS ?aL ?_; (case aP => exact k44_mkM _ _ _ (⟨x484000_4,((rd_T44 l0_2 x6_3).f1)⟩ : S44) (Kd.R_mono (Kd.R_tight rfl (Kd.R_mono (ok':=fun k_ => ((fun k_ => k_ ≠ gb483)) k_ ∧ some k_ ≠ (u474002 : Value).ownBlock) (Kd.R_types (Kd.R_apart' (HO_484000.out) (Kd.S_typed HO_474002.out) (by decide)) BK483.out (by decide)) (fun k_ hk => ⟨hk.2,hk.1.2⟩))) (fun _ h_ => h_))); (case aB => exact (by repeat (first | (with_reducible first | exact HB.out | apply below_alloc | apply pw_below_drewN | apply below_drew1 | refine below_set ?_ GE471.out | refine below_set ?_ GE472.out | refine below_set ?_ GE473.out | refine below_set ?_ GE483.out) | exact HB.out))); (case aF => exact (fun k_ hk => Kd.freshB (g:=gb483) (o:=.cells #[.slice Ao68 x484000_4.length co68,.bool ((rd_T44 l0_2 x6_3).f1)] 44 (0,0)) (by (with_reducible repeat (first | refine blk_drewN ?_ _ | refine blk_drew ?_ | refine blk_alloc ?_ _)); exact BK483.out) k_ hk)); (case aO => exact (by (with_reducible repeat (first | apply Kd.S_alloc | apply Kd.S_drewN | apply Kd.S_drew)); exact Kd.S_mono HO_474002.out (fun k_ hk => ⟨hk.2,fun e_ => hk.1 e_⟩))); (case aS => exact (below_size (by repeat (first | (with_reducible first | exact HB.out | apply below_alloc | apply pw_below_drewN | apply below_drew1 | refine below_set ?_ GE471.out | refine below_set ?_ GE472.out | refine below_set ?_ GE473.out | refine below_set ?_ GE483.out) | exact HB.out)))); (case aL => have:=LMc57.out; omega); intro v491 w67 ho hb hg hat; rw [← Ny490.out] at ho; have n0_:=Aside0.mk (Kd.R_over' (by (with_reducible repeat (first | apply Kd.R_alloc | apply Kd.R_drewN | apply Kd.R_drew)); exact HO_474000.out) (Kd.S_typed (by (with_reducible repeat (first | apply Kd.S_alloc | apply Kd.S_drewN | apply Kd.S_drew)); exact HO_474002.out)) (by decide) hg); have n1_:=Aside0.mk (Kd.R_over' (by (with_reducible repeat (first | apply Kd.R_alloc | apply Kd.R_drewN | apply Kd.R_drew)); exact HO_474001.out) (Kd.S_typed (by (with_reducible repeat (first | apply Kd.S_alloc | apply Kd.S_drewN | apply Kd.S_drew)); exact HO_474002.out)) (by decide) hg); have n2_:=Aside0.mk (blk_grown (g:=gb471) (o:=.cells #[.slice A0_0 l0_0.length c0_0,.slice A0_1 l0_1.length c0_1,.slice (some ad482) l0_2.length c0_2] 26 (0,0)) (by (with_reducible repeat (first | refine blk_drewN ?_ _ | refine blk_drew ?_ | refine blk_alloc ?_ _)); exact BK471.out) hg (Kd.S_ne HO_474002.out BK471.out (by decide))); have n3_:=Aside0.mk (blk_grown (g:=gb472) (o:=.cells #[.slice none 0 0,.slice none 0 0,.slice none 0 0] 26 (0,0)) (by (with_reducible repeat (first | refine blk_drewN ?_ _ | refine blk_drew ?_ | refine blk_alloc ?_ _)); exact BK472.out) hg (Kd.S_ne HO_474002.out BK472.out (by decide))); have n4_:=Aside0.mk (blk_grown (g:=gb473) (o:=.cells #[u474000,u474001,u474002] 26 (0,0)) (by (with_reducible repeat (first | refine blk_drewN ?_ _ | refine blk_drew ?_ | refine blk_alloc ?_ _)); exact BK473.out) hg (Kd.S_ne HO_474002.out BK473.out (by decide))); have n5_:=Aside0.mk (blk_grown (g:=gb483) (o:=.cells #[.slice Ao68 x484000_4.length co68,.bool ((rd_T44 l0_2 x6_3).f1)] 44 (0,0)) (by (with_reducible repeat (first | refine blk_drewN ?_ _ | refine blk_drew ?_ | refine blk_alloc ?_ _)); exact BK483.out) hg (Kd.S_away HO_474002.out (fun _ hk => hk.2))); have n6_:=Aside0.mk (hb); have n7_:=Aside0.mk (ho); clear HO_474000; clear HO_474001; clear BK471; clear BK472; clear BK473; clear BK483; clear HB; clear HO_474002; clear HO_484000; have HO_474000:=n0_; have HO_474001:=n1_; have BK471:=n2_; have BK472:=n3_; have BK473:=n4_; have BK483:=n5_; have HB:=n6_; have HO492:=n7_; clear n0_ n1_ n2_ n3_ n4_ n5_ n6_ n7_; clear ho hb hg hat; obtain ⟨Ao69,co69,eo69⟩:=Kd.S_slice HO492.out; subst eo69; have hcz70_0 : w67.cell? ⟨gb473,0,none⟩ = some (u474000):=(blk_cell BK473.out 0).trans rfl; have hcz70_1 : w67.cell? ⟨gb473,1,none⟩ = some (u474001):=(blk_cell BK473.out 1).trans rfl; have hcz70_2 : w67.cell? ⟨gb473,2,none⟩ = some (u474002):=(blk_cell BK473.out 2).trans rfl; have hfz70_0:=blk_frozen BK473.out 0; have hfz70_1:=blk_frozen BK473.out 1; have hfz70_2:=blk_frozen BK473.out 2))
                 go_roundg k4
                 case measure => have:=HK1.out; have:=HK2.out; have:=HK3.out; have:=HK4.out; omega
                 case rel => exact ⟨(wrap64 (x6_3 + 1)),(y490),(.slice Ao69 y490.length co69),(by first | rfl | (simp; done) | (simp [*]; done)),H',⟨by have:=HK1.out; have:=HK2.out; have:=HK3.out; have:=HK4.out; omega⟩,⟨by (with_reducible repeat (first | apply Kd.R_alloc | apply Kd.R_drewN | apply Kd.R_drew)); exact Kd.R_mono (Kd.R_far (p:=⟨gb473,2,none⟩) (Kd.R_types HO_474000.out BK473.out (by decide)) (fun _ hk => hk.2) (.slice Ao69 y490.length co69)) (fun _ hk => trivial)⟩,⟨by (with_reducible repeat (first | apply Kd.R_alloc | apply Kd.R_drewN | apply Kd.R_drew)); exact Kd.R_mono (Kd.R_far (p:=⟨gb473,2,none⟩) (Kd.R_types HO_474001.out BK473.out (by decide)) (fun _ hk => hk.2) (.slice Ao69 y490.length co69)) (fun _ hk => trivial)⟩,⟨by (with_reducible repeat (first | apply Kd.S_alloc | apply Kd.S_drewN | apply Kd.S_drew)); exact Kd.S_mono (Kd.S_far (p:=⟨gb473,2,none⟩) (Kd.S_types HO492.out BK473.out (by decide)) (fun _ hk => hk.2) (.slice Ao69 y490.length co69)) (fun _ hk => trivial)⟩,⟨by (with_reducible repeat (first | refine blk_drewN ?_ _ | refine blk_drew ?_ | refine blk_alloc ?_ _)); refine blk_far ?_ NB471_473.out _; (with_reducible repeat (first | refine blk_drewN ?_ _ | refine blk_drew ?_ | refine blk_alloc ?_ _)); exact BK471.out⟩,⟨by (with_reducible repeat (first | refine blk_drewN ?_ _ | refine blk_drew ?_ | refine blk_alloc ?_ _)); refine blk_far ?_ NB472_473.out _; (with_reducible repeat (first | refine blk_drewN ?_ _ | refine blk_drew ?_ | refine blk_alloc ?_ _)); exact BK472.out⟩,⟨by (with_reducible repeat (first | refine blk_drewN ?_ _ | refine blk_drew ?_ | refine blk_alloc ?_ _)); refine blk_put (cs:=#[u474000,u474001,u474002]) ?_ 2 _ rfl; (with_reducible repeat (first | refine blk_drewN ?_ _ | refine blk_drew ?_ | refine blk_alloc ?_ _)); exact BK473.out⟩,⟨by repeat (first | (with_reducible first | exact HB.out | apply below_alloc | apply pw_below_drewN | apply below_drew1 | refine below_set ?_ GE471.out | refine below_set ?_ GE472.out | refine below_set ?_ GE473.out | refine below_set ?_ GE483.out) | exact HB.out)⟩⟩
                ·rw [if_neg c57] at H
                 exact absurd H (by simp)
              ·rw [if_neg c45] at H
               exact absurd H (by simp)
             ·rw [if_neg c44] at H
              exact absurd H (by simp)
          ·rw [if_neg c35] at H
           exact absurd H (by simp)
         ·rw [if_neg c34] at H
          have c34b0 : decide (x6_3 < (l0_2.length : Int)) = false:=decide_eq_false c34
          clear c34
          simp only [Option.some.injEq,Prod.mk.injEq] at H
          obtain ⟨rfl,rfl,rfl⟩:=H
          have hnb71:=NB471_472.out
          have hnc71:=NB472_471.out
          have hnb72:=NB471_473.out
          have hnc72:=NB473_471.out
          have hcz73_0 : wr.cell? ⟨gb471,0,none⟩ = some (.slice A0_0 l0_0.length c0_0):=(blk_cell BK471.out 0).trans rfl
          have hcz73_1 : wr.cell? ⟨gb471,1,none⟩ = some (.slice A0_1 l0_1.length c0_1):=(blk_cell BK471.out 1).trans rfl
          have hcz73_2 : wr.cell? ⟨gb471,2,none⟩ = some (.slice A0_2 l0_2.length c0_2):=(blk_cell BK471.out 2).trans rfl
          have hfz73_0:=blk_frozen BK471.out 0
          have hfz73_1:=blk_frozen BK471.out 1
          have hfz73_2:=blk_frozen BK471.out 2
          have hnb74:=NB473_472.out
          have hnc74:=NB472_473.out
          have hcz75_0 : wr.cell? ⟨gb473,0,none⟩ = some (u474000):=(blk_cell BK473.out 0).trans rfl
          have hcz75_1 : wr.cell? ⟨gb473,1,none⟩ = some (u474001):=(blk_cell BK473.out 1).trans rfl
          have hcz75_2 : wr.cell? ⟨gb473,2,none⟩ = some (u474002):=(blk_cell BK473.out 2).trans rfl
          have hfz75_0:=blk_frozen BK473.out 0
          have hfz75_1:=blk_frozen BK473.out 1
          have hfz75_2:=blk_frozen BK473.out 2
          obtain ⟨Ao76,co76,eo76⟩:=Kd.R_slice HO_474000.out
          subst eo76
          have hcz77_0 : wr.cell? ⟨gb472,0,none⟩ = some (.slice none 0 0):=(blk_cell BK472.out 0).trans rfl
          have hcz77_1 : wr.cell? ⟨gb472,1,none⟩ = some (.slice none 0 0):=(blk_cell BK472.out 1).trans rfl
          have hcz77_2 : wr.cell? ⟨gb472,2,none⟩ = some (.slice none 0 0):=(blk_cell BK472.out 2).trans rfl
          have hfz77_0:=blk_frozen BK472.out 0
          have hfz77_1:=blk_frozen BK472.out 1
          have hfz77_2:=blk_frozen BK472.out 2
          obtain ⟨Ao78,co78,eo78⟩:=Kd.R_slice HO_474001.out
          subst eo78
          obtain ⟨Ao79,co79,eo79⟩:=Kd.S_slice HO_474002.out
          subst eo79
          go_wp2
          refine bodyPost_ret (results_cell_row rfl _ _ gb472 26 #[.slice Ao76 x474000_1.length co76,.slice Ao78 x474001_2.length co78,.slice Ao79 x474002_3.length co79] (0,0) _ rfl (by (with_reducible repeat (first | refine blk_drewN ?_ _ | refine blk_drew ?_ | refine blk_alloc ?_ _)); refine blk_put (cs:=#[.slice Ao76 x474000_1.length co76,.slice Ao78 x474001_2.length co78,.slice none 0 0]) ?_ 2 _ rfl; (with_reducible repeat (first | refine blk_drewN ?_ _ | refine blk_drew ?_ | refine blk_alloc ?_ _)); refine blk_put (cs:=#[.slice Ao76 x474000_1.length co76,.slice none 0 0,.slice none 0 0]) ?_ 1 _ rfl; (with_reducible repeat (first | refine blk_drewN ?_ _ | refine blk_drew ?_ | refine blk_alloc ?_ _)); refine blk_put (cs:=#[.slice none 0 0,.slice none 0 0,.slice none 0 0]) ?_ 0 _ rfl; (with_reducible repeat (first | refine blk_drewN ?_ _ | refine blk_drew ?_ | refine blk_alloc ?_ _)); exact BK472.out) Tryz.underlying26 rfl (by kernel_rfl)) rfl ?_
          exact ⟨_,_,_,by first | rfl | (simp [errW_none,errW_some] <;> rfl) | (simp [*,errW_none,errW_some] <;> rfl),by (with_reducible repeat (first | apply Kd.R_alloc | apply Kd.R_drewN | apply Kd.R_drew)); exact Kd.R_mono (Kd.R_far (p:=⟨gb472,2,none⟩) (Kd.R_far (p:=⟨gb472,1,none⟩) (Kd.R_far (p:=⟨gb472,0,none⟩) (Kd.R_types HO_474000.out BK472.out (by decide)) (fun _ hk => hk.2) (.slice Ao76 x474000_1.length co76)) (fun _ hk => hk.2) (.slice Ao78 x474001_2.length co78)) (fun _ hk => hk.2) (.slice Ao79 x474002_3.length co79)) (fun _ hk => trivial),by (with_reducible repeat (first | apply Kd.R_alloc | apply Kd.R_drewN | apply Kd.R_drew)); exact Kd.R_mono (Kd.R_far (p:=⟨gb472,2,none⟩) (Kd.R_far (p:=⟨gb472,1,none⟩) (Kd.R_far (p:=⟨gb472,0,none⟩) (Kd.R_types HO_474001.out BK472.out (by decide)) (fun _ hk => hk.2) (.slice Ao76 x474000_1.length co76)) (fun _ hk => hk.2) (.slice Ao78 x474001_2.length co78)) (fun _ hk => hk.2) (.slice Ao79 x474002_3.length co79)) (fun _ hk => trivial),by (with_reducible repeat (first | apply Kd.S_alloc | apply Kd.S_drewN | apply Kd.S_drew)); exact Kd.S_mono (Kd.S_far (p:=⟨gb472,2,none⟩) (Kd.S_far (p:=⟨gb472,1,none⟩) (Kd.S_far (p:=⟨gb472,0,none⟩) (Kd.S_types HO_474002.out BK472.out (by decide)) (fun _ hk => hk.2) (.slice Ao76 x474000_1.length co76)) (fun _ hk => hk.2) (.slice Ao78 x474001_2.length co78)) (fun _ hk => hk.2) (.slice Ao79 x474002_3.length co79)) (fun _ hk => trivial),by repeat (first | (with_reducible first | exact HB.out | apply below_alloc | apply pw_below_drewN | apply below_drew1 | refine below_set ?_ GE471.out | refine below_set ?_ GE472.out | refine below_set ?_ GE473.out) | exact HB.out)⟩
end Go.Proofs.YtdbpglhdicmhhaaGreatDoor.GA
end
