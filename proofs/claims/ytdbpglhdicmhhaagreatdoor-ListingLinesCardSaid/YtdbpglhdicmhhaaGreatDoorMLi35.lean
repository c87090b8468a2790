import Derived.Test.YtdbpglhdicmhhaaGreatDoorMLi6
import Derived.Test.YtdbpglhdicmhhaaGreatDoorMLi9
import Derived.Test.YtdbpglhdicmhhaaGreatDoorMLi34
import Derived.Test.YtdbpglhdicmhhaaGreatDoorMLi10
import Derived.Lib.AppendIntMem
set_option linter.unusedVariables false
set_option linter.unusedSimpArgs false
section
namespace Go.Proofs.YtdbpglhdicmhhaaGreatDoor.GA
open Go.RowKit Go.Proofs.YtdbpglhdicmhhaaGreatDoorW.PrintWords Go.Proofs.YtdbpglhdicmhhaaGreatDoorW.PrintLast Go.Proofs.YtdbpglhdicmhhaaGreatDoorW.PrintMore
abbrev bx : ByteArray:=⟨#[101,120,105,116]⟩
abbrev be : ByteArray:=⟨#[]⟩
set_option maxHeartbeats 8000000 in
set_option maxRecDepth 100000 in
theorem check_exit (w : World) : Calls Tryz.prog 79 #[.agg #[.int .i64 24,.int .i64 0,.int .i64 0,.int .i64 0,.int .i64 0]] w fun e w' => e = .returned (.int .i64 0) ∧ Below w.heap.size w w':=by
 have hu70:=Tryz.underlying70
 have hu133:=Tryz.underlying133
 have HB:=Aside0.mk (Below.refl w.heap.size w)
 have A2:=Aside0.mk (show rotaref06_table.f 24 = some (bx,0,1,be,be,true) from rfl)
 have A4:=Aside0.mk (show rotaref06_Has.f 0 = some (false,false,false,0,0) from rfl)
 have A5:=Aside0.mk (show rotaref06_fits.f 0 false = some true from rfl)
 have A7:=A5
 have A9:=A5
 go_enter Tryz.func79,Tryz.ntmps79
 go_wp2_with (first | ((with_reducible refine gate_dst (N:=1) rfl ?_); refine box_event ?hg (N:=1) ?hd (cs:=#[.int .i64 24,.int .i64 0,.int .i64 0,.int .i64 0,.int .i64 0]) (t:=70) ?hr ?_; (case hd => rfl); (case hg => rfl); (case hr => first | (go_simp; done) | (go_simp; rfl)); intro gb367 hg w27 hbox hb; have n0_:=Aside0.mk (below_step (by repeat (first | (with_reducible first | exact HB.out | apply below_alloc | apply pw_below_drewN | apply below_drew1) | exact HB.out)) hb); have n1_:=Aside0.mk (hbox); have n2_:=Aside0.mk ((by rw [hg]; exact (below_size (by repeat (first | (with_reducible first | exact HB.out | apply below_alloc | apply pw_below_drewN | apply below_drew1) | exact HB.out))) : w.heap.size ≤ gb367)); have n3_:=Aside0.mk ((by rw [hg]; exact (below_size (by repeat (first | (with_reducible first | exact HB.out | apply below_alloc | apply pw_below_drewN | apply below_drew1) | exact HB.out))) : w.heap.size ≤ gb367)); clear HB; have HB:=n0_; have BK367:=n1_; have GW367:=n2_; have GE367:=n3_; clear n0_ n1_ n2_ n3_; clear hb hbox hg; have hcz28_0 : w27.cell? ⟨gb367,0,none⟩ = some (.int .i64 24):=(blk_cell BK367.out 0).trans rfl; have hcz28_1 : w27.cell? ⟨gb367,1,none⟩ = some (.int .i64 0):=(blk_cell BK367.out 1).trans rfl; have hcz28_2 : w27.cell? ⟨gb367,2,none⟩ = some (.int .i64 0):=(blk_cell BK367.out 2).trans rfl; have hcz28_3 : w27.cell? ⟨gb367,3,none⟩ = some (.int .i64 0):=(blk_cell BK367.out 3).trans rfl; have hcz28_4 : w27.cell? ⟨gb367,4,none⟩ = some (.int .i64 0):=(blk_cell BK367.out 4).trans rfl; have hfz28_0:=blk_frozen BK367.out 0; have hfz28_1:=blk_frozen BK367.out 1; have hfz28_2:=blk_frozen BK367.out 2; have hfz28_3:=blk_frozen BK367.out 3; have hfz28_4:=blk_frozen BK367.out 4) | ((with_reducible refine gate_callee (f:=83) rfl ?_); refine goesL_ (some 13) rfl rfl Tryz.func83 (by kernel_rfl) rfl #[.int .i64 24] rfl (by (try simp only [List.map_toArray,List.map_cons,List.map_nil]); first | done | rfl | (simp only [List.length_drop,List.length_take]; rfl)) ?_; (with_reducible refine (rotaref06_table.calls 24 bx 0 1 be be true _ A2.out).mono ?_); rintro e w29 ⟨rfl,hb⟩; refine ⟨_,rfl,?_⟩; have n0_:=Aside0.mk (blk_below (g:=gb367) (o:=.cells #[.int .i64 24,.int .i64 0,.int .i64 0,.int .i64 0,.int .i64 0] 70 (0,0)) (by (with_reducible repeat (first | refine blk_drewN ?_ _ | refine blk_drew ?_ | refine blk_alloc ?_ _)); exact BK367.out) hb); have n1_:=Aside0.mk (below_step (by repeat (first | (with_reducible first | exact HB.out | apply below_alloc | apply pw_below_drewN | apply below_drew1 | refine below_set ?_ GE367.out) | exact HB.out)) hb); clear BK367; clear HB; have BK367:=n0_; have HB:=n1_; clear n0_ n1_; (try clear hb); (try clear hb2); (try clear hk); (try clear hi)) | ((with_reducible refine gate_dst (N:=3) rfl ?_); refine box_event ?hg (N:=3) ?hd (cs:=#[.string (⟨#[]⟩ : ByteArray),.int .i64 0,.int .i64 0,.string (⟨#[]⟩ : ByteArray),.string (⟨#[]⟩ : ByteArray)]) (t:=133) ?hr ?_; (case hd => rfl); (case hg => rfl); (case hr => first | (go_simp; done) | (go_simp; rfl)); intro gb374 hg w30 hbox hb; have n0_:=Aside0.mk (blk_below (g:=gb367) (o:=.cells #[.int .i64 24,.int .i64 0,.int .i64 0,.int .i64 0,.int .i64 0] 70 (0,0)) (by (with_reducible repeat (first | refine blk_drewN ?_ _ | refine blk_drew ?_ | refine blk_alloc ?_ _)); exact BK367.out) hb); have n1_:=Aside0.mk (below_step (by repeat (first | (with_reducible first | exact HB.out | apply below_alloc | apply pw_below_drewN | apply below_drew1 | refine below_set ?_ GE367.out) | exact HB.out)) hb); have n2_:=Aside0.mk (hbox); have n3_:=Aside0.mk ((by rw [hg]; exact (below_size (by repeat (first | (with_reducible first | exact HB.out | apply below_alloc | apply pw_below_drewN | apply below_drew1 | refine below_set ?_ GE367.out) | exact HB.out))) : w.heap.size ≤ gb374)); have n4_:=Aside0.mk ((by rw [hg]; exact (below_size (by repeat (first | (with_reducible first | exact HB.out | apply below_alloc | apply pw_below_drewN | apply below_drew1 | refine below_set ?_ GE367.out) | exact HB.out))) : w.heap.size ≤ gb374)); have n5_:=Aside0.mk ((by rw [hg]; exact Nat.ne_of_lt (blk_lt (g:=gb367) (o:=.cells #[.int .i64 24,.int .i64 0,.int .i64 0,.int .i64 0,.int .i64 0] 70 (0,0)) (by (with_reducible repeat (first | refine blk_drewN ?_ _ | refine blk_drew ?_ | refine blk_alloc ?_ _)); exact BK367.out)) : gb367 ≠ gb374)); have n6_:=Aside0.mk ((by rw [hg]; exact Nat.ne_of_gt (blk_lt (g:=gb367) (o:=.cells #[.int .i64 24,.int .i64 0,.int .i64 0,.int .i64 0,.int .i64 0] 70 (0,0)) (by (with_reducible repeat (first | refine blk_drewN ?_ _ | refine blk_drew ?_ | refine blk_alloc ?_ _)); exact BK367.out)) : gb374 ≠ gb367)); clear BK367; clear HB; have BK367:=n0_; have HB:=n1_; have BK374:=n2_; have GW374:=n3_; have GE374:=n4_; have NB367_374:=n5_; have NB374_367:=n6_; clear n0_ n1_ n2_ n3_ n4_ n5_ n6_; clear hb hbox hg; have hnb31:=NB374_367.out; have hnc31:=NB367_374.out; have hcz32_0 : w30.cell? ⟨gb374,0,none⟩ = some (.string (⟨#[]⟩ : ByteArray)):=(blk_cell BK374.out 0).trans rfl; have hcz32_1 : w30.cell? ⟨gb374,1,none⟩ = some (.int .i64 0):=(blk_cell BK374.out 1).trans rfl; have hcz32_2 : w30.cell? ⟨gb374,2,none⟩ = some (.int .i64 0):=(blk_cell BK374.out 2).trans rfl; have hcz32_3 : w30.cell? ⟨gb374,3,none⟩ = some (.string (⟨#[]⟩ : ByteArray)):=(blk_cell BK374.out 3).trans rfl; have hcz32_4 : w30.cell? ⟨gb374,4,none⟩ = some (.string (⟨#[]⟩ : ByteArray)):=(blk_cell BK374.out 4).trans rfl; have hfz32_0:=blk_frozen BK374.out 0; have hfz32_1:=blk_frozen BK374.out 1; have hfz32_2:=blk_frozen BK374.out 2; have hfz32_3:=blk_frozen BK374.out 3; have hfz32_4:=blk_frozen BK374.out 4) | ((with_reducible refine gate_callee (f:=43) rfl ?_); refine goesL_ (some 21) rfl rfl Tryz.func43 (by kernel_rfl) rfl #[.int .i64 0] rfl (by (try simp only [List.map_toArray,List.map_cons,List.map_nil]); first | done | rfl | (simp only [List.length_drop,List.length_take]; rfl)) ?_; (with_reducible refine (rotaref06_Has.calls 0 false false false 0 0 _ A4.out).mono ?_); rintro e w' ⟨rfl,⟨nd,rfl⟩⟩; refine ⟨_,rfl,?_⟩; have hcz33_0 : w30.cell? ⟨gb367,0,none⟩ = some (.int .i64 24):=(blk_cell BK367.out 0).trans rfl; have hcz33_1 : w30.cell? ⟨gb367,1,none⟩ = some (.int .i64 0):=(blk_cell BK367.out 1).trans rfl; have hcz33_2 : w30.cell? ⟨gb367,2,none⟩ = some (.int .i64 0):=(blk_cell BK367.out 2).trans rfl; have hcz33_3 : w30.cell? ⟨gb367,3,none⟩ = some (.int .i64 0):=(blk_cell BK367.out 3).trans rfl; have hcz33_4 : w30.cell? ⟨gb367,4,none⟩ = some (.int .i64 0):=(blk_cell BK367.out 4).trans rfl; have hfz33_0:=blk_frozen BK367.out 0; have hfz33_1:=blk_frozen BK367.out 1; have hfz33_2:=blk_frozen BK367.out 2; have hfz33_3:=blk_frozen BK367.out 3; have hfz33_4:=blk_frozen BK367.out 4) | ((with_reducible refine gate_callee (f:=84) rfl ?_); refine goesL_ (some 30) rfl rfl Tryz.func84 (by kernel_rfl) rfl #[.int .i64 0,.bool false] rfl (by (try simp only [List.map_toArray,List.map_cons,List.map_nil]); first | done | rfl | (simp only [List.length_drop,List.length_take]; rfl)) ?_; (with_reducible refine (rotaref06_fits.calls 0 false true _ A5.out).mono ?_); rintro e w' ⟨rfl,⟨nd,rfl⟩⟩; refine ⟨_,rfl,?_⟩) | (go_at_call 84; (with_reducible refine (rotaref06_fits.calls 0 false true _ A7.out).mono ?_); rintro e w' ⟨rfl,⟨nd,rfl⟩⟩) | (go_at_call 84; (with_reducible refine (rotaref06_fits.calls 0 false true _ A9.out).mono ?_); rintro e w' ⟨rfl,⟨nd,rfl⟩⟩))
 go_ret
 exact ⟨by first | rfl | (simp [errW_none,errW_some] <;> rfl) | (simp [*,errW_none,errW_some] <;> rfl),by repeat (first | (with_reducible first | exact HB.out | apply below_alloc | apply pw_below_drewN | apply below_drew1 | refine below_set ?_ GE367.out | refine below_set ?_ GE374.out) | exact HB.out)⟩
set_option maxHeartbeats 8000000 in
set_option maxRecDepth 100000 in
theorem encode_exit (w : World) : Calls Tryz.prog 33 #[.agg #[.int .i64 24,.int .i64 0,.int .i64 0,.int .i64 0,.int .i64 0]] w fun e w' => e = .returned (.tuple #[.int .u32 402653184,.int .i64 0]) ∧ Below w.heap.size w w':=by
 have hu70:=Tryz.underlying70
 have HB:=Aside0.mk (Below.refl w.heap.size w)
 have HC:=Aside0.mk check_exit
 go_enter Tryz.func33,Tryz.ntmps33
 go_wp2_with (first | ((with_reducible refine gate_dst (N:=1) rfl ?_); refine box_event ?hg (N:=1) ?hd (cs:=#[.int .i64 24,.int .i64 0,.int .i64 0,.int .i64 0,.int .i64 0]) (t:=70) ?hr ?_; (case hd => rfl); (case hg => rfl); (case hr => first | (go_simp; done) | (go_simp; rfl)); intro gb383 hg w9 hbox hb; have n0_:=Aside0.mk (below_step (by repeat (first | (with_reducible first | exact HB.out | apply below_alloc | apply pw_below_drewN | apply below_drew1) | exact HB.out)) hb); have n1_:=Aside0.mk (hbox); have n2_:=Aside0.mk ((by rw [hg]; exact (below_size (by repeat (first | (with_reducible first | exact HB.out | apply below_alloc | apply pw_below_drewN | apply below_drew1) | exact HB.out))) : w.heap.size ≤ gb383)); have n3_:=Aside0.mk ((by rw [hg]; exact (below_size (by repeat (first | (with_reducible first | exact HB.out | apply below_alloc | apply pw_below_drewN | apply below_drew1) | exact HB.out))) : w.heap.size ≤ gb383)); clear HB; have HB:=n0_; have BK383:=n1_; have GW383:=n2_; have GE383:=n3_; clear n0_ n1_ n2_ n3_; clear hb hbox hg; have hcz10_0 : w9.cell? ⟨gb383,0,none⟩ = some (.int .i64 24):=(blk_cell BK383.out 0).trans rfl; have hcz10_1 : w9.cell? ⟨gb383,1,none⟩ = some (.int .i64 0):=(blk_cell BK383.out 1).trans rfl; have hcz10_2 : w9.cell? ⟨gb383,2,none⟩ = some (.int .i64 0):=(blk_cell BK383.out 2).trans rfl; have hcz10_3 : w9.cell? ⟨gb383,3,none⟩ = some (.int .i64 0):=(blk_cell BK383.out 3).trans rfl; have hcz10_4 : w9.cell? ⟨gb383,4,none⟩ = some (.int .i64 0):=(blk_cell BK383.out 4).trans rfl; have hfz10_0:=blk_frozen BK383.out 0; have hfz10_1:=blk_frozen BK383.out 1; have hfz10_2:=blk_frozen BK383.out 2; have hfz10_3:=blk_frozen BK383.out 3; have hfz10_4:=blk_frozen BK383.out 4) | ((with_reducible refine gate_callee (f:=79) rfl ?_); refine goesL_ (some 7) rfl rfl Tryz.func79 (by kernel_rfl) rfl #[.agg #[.int .i64 24,.int .i64 0,.int .i64 0,.int .i64 0,.int .i64 0]] rfl (by (try simp only [List.map_toArray,List.map_cons,List.map_nil]); first | done | rfl | (simp only [List.length_drop,List.length_take]; rfl)) ?_; (with_reducible refine (HC.out _).mono ?_); rintro e w11 ⟨rfl,hb⟩; refine ⟨_,rfl,?_⟩; have n0_:=Aside0.mk (blk_below (g:=gb383) (o:=.cells #[.int .i64 24,.int .i64 0,.int .i64 0,.int .i64 0,.int .i64 0] 70 (0,0)) (by (with_reducible repeat (first | refine blk_drewN ?_ _ | refine blk_drew ?_ | refine blk_alloc ?_ _)); exact BK383.out) hb); have n1_:=Aside0.mk (below_step (by repeat (first | (with_reducible first | exact HB.out | apply below_alloc | apply pw_below_drewN | apply below_drew1 | refine below_set ?_ GE383.out) | exact HB.out)) hb); clear BK383; clear HB; have BK383:=n0_; have HB:=n1_; clear n0_ n1_; (try clear hb); (try clear hb2); (try clear hk); (try clear hi); have hcz12_0 : w11.cell? ⟨gb383,0,none⟩ = some (.int .i64 24):=(blk_cell BK383.out 0).trans rfl; have hcz12_1 : w11.cell? ⟨gb383,1,none⟩ = some (.int .i64 0):=(blk_cell BK383.out 1).trans rfl; have hcz12_2 : w11.cell? ⟨gb383,2,none⟩ = some (.int .i64 0):=(blk_cell BK383.out 2).trans rfl; have hcz12_3 : w11.cell? ⟨gb383,3,none⟩ = some (.int .i64 0):=(blk_cell BK383.out 3).trans rfl; have hcz12_4 : w11.cell? ⟨gb383,4,none⟩ = some (.int .i64 0):=(blk_cell BK383.out 4).trans rfl; have hfz12_0:=blk_frozen BK383.out 0; have hfz12_1:=blk_frozen BK383.out 1; have hfz12_2:=blk_frozen BK383.out 2; have hfz12_3:=blk_frozen BK383.out 3; have hfz12_4:=blk_frozen BK383.out 4))
 go_ret2
 exact ⟨by first | rfl | (simp [errW_none,errW_some] <;> rfl) | (simp [*,errW_none,errW_some] <;> rfl),by repeat (first | (with_reducible first | exact HB.out | apply below_alloc | apply pw_below_drewN | apply below_drew1 | refine below_set ?_ GE383.out) | exact HB.out)⟩
end Go.Proofs.YtdbpglhdicmhhaaGreatDoor.GA
end

section
namespace Go.Proofs.YtdbpglhdicmhhaaGreatDoor.Hof
open Go.RowKit Go.Shelf Go.Proofs.YtdbpglhdicmhhaaGreatDoorW.PrintWords Go.Proofs.YtdbpglhdicmhhaaGreatDoorW.PrintLast Go.Proofs.YtdbpglhdicmhhaaGreatDoorW.PrintMore Hctx
open Go.Proofs.YtdbpglhdicmhhaaGreatDoor.GA
def livesText : ByteArray:=⟨#[102,117,110,99,32,102,10,101,120,105,116,10]⟩
theorem lives_wrong : (final07 livesText).wrong = 0:=by kernel_rfl
theorem lives_code : (final07 livesText).code = [402653184]:=by kernel_rfl
set_option maxHeartbeats 4000000 in
set_option maxRecDepth 100000 in
theorem lives_calls (w : World) (S0 : Std w) : Calls Tryz.prog 11 #[] w fun e W' => e = .returned (.bool true) ∧ Below w.heap.size w W':=by
 have S:=Lib.hid S0
 clear S0
 have HEN:=Lib.hid encode_exit
 go_enter Tryz.func11,Tryz.ntmps11
 go_wp2_with fail
 refine (parse_calls livesText (by decide) w S.out).mono ?_
 rintro e W5 hP
 unfold Parsed at hP
 rw [if_neg (by decide),if_neg (fun h => h lives_wrong)] at hP
 obtain ⟨k,gr,l,h,rfl,hk,M⟩:=hP
 obtain ⟨gc,cc,hvc⟩ : ∃ g c,h.vc = .slice (some ⟨g,0,none⟩) 1 c:=by
  rcases MemF.slice M.mem 0 rfl with ⟨c,h1,h2⟩ | ⟨g,c,h1,h2⟩
  ·have:=congrArg List.length h2; rw [show (final07 livesText).code = [402653184] from lives_code] at this; cases this
  ·rw [show (final07 livesText).code = [402653184] from lives_code] at h1; exact ⟨g,c,h1⟩
 have one1:=MemF.one M.mem 1 rfl
 have one2:=MemF.one M.mem 2 rfl
 have MM:=Aside0.mk (show MemF esR w W5 ((gr,cellsR h (final07 livesText),55) :: l) (fxR h) (⟨Kd.int .u32,39,h.vc,[402653184]⟩ :: (rowsR h (final07 livesText)).drop 1) from by have:=M.mem; unfold RMem at this; rw [← lives_code]; exact this)
 rw [hvc] at MM ⊢
 have H3:=Lib.hid (show (#[Value.slice (some ⟨gc,0,none⟩) 1 cc,h.vf,h.vt] : Array Value).all (·.oneCell') = true by simp [show h.vf.oneCell' = true from one1,show h.vt.oneCell' = true from one2]; rfl)
 have y0:=fun (W : World) (M : MemF esR w W ((gr,cellsR h (final07 livesText),55) :: l) (fxR h) (⟨Kd.int .u32,39,.slice (some ⟨gc,0,none⟩) 1 cc,[402653184]⟩ :: (rowsR h (final07 livesText)).drop 1)) => M.icell 0 rfl (i:=0) rfl (by decide)
 have HY0:=Lib.hid y0
 generalize h.vf = vf at *
 generalize h.vt = vt at *
 clear M hk one1 one2 y0
 go_wp2_with (first
  | ((with_reducible refine gate_dst (N:=1) rfl ?_); refine fB MM 1 #[.slice none 0 0,.slice none 0 0,.slice none 0 0] 26 ?_; clear MM; intro g1 w8 M5_; have M5:=Aside0.mk (show MemF esR w w8 (_ :: (l ++ [_])) _ _ from M5_.out); clear M5_)
  | ((with_reducible refine gate_store (t:=26) (p:=1) rfl ?_); refine fW M5 26 1 (l.length + 1) #[.slice (some ⟨gc,0,none⟩) 1 cc,vf,vt] ?_ last_box rfl H3.out; clear M5; intro w9 M6))
 have M7:=Aside0.mk (show MemF esR w w9 (_ :: (l ++ [(g1,#[.slice (some ⟨gc,0,none⟩) 1 cc,vf,vt],26)])) _ _ from by have h:=M6.out; rw [set_last] at h; exact h)
 clear M6
 refine (HEN.out _).mono ?_
 rintro e W13 ⟨rfl,hb⟩
 have M8:=Aside0.mk (M7.out.call hb)
 clear M7 hb
 have y1 : W13.cell? ⟨gc,0,none⟩ = some (.int .u32 402653184):=M8.out.icell 0 rfl (i:=0) rfl (by decide)
 have y2 : W13.cell? ⟨g1,0,none⟩ = some (.slice (some ⟨gc,0,none⟩) 1 cc):=(M8.out.mem.cell (l.length + 1) last_box 0).trans rfl
 go_wp2
 go_returns
 exact ⟨rfl,M8.out.mem.below⟩
end Go.Proofs.YtdbpglhdicmhhaaGreatDoor.Hof
end

section
namespace Go.Proofs.YtdbpglhdicmhhaaGreatDoor.GA
open Go.RowKit Go.Proofs.YtdbpglhdicmhhaaGreatDoorW.PrintWords Go.Proofs.YtdbpglhdicmhhaaGreatDoorW.PrintLast Go.Proofs.YtdbpglhdicmhhaaGreatDoorW.PrintMore
def rotalaw07_lives.f : Option Bool:=some true
set_option maxHeartbeats 8000000 in
set_option maxRecDepth 100000 in
theorem rotalaw07_lives.calls  (r : Bool) (w : World) (hLLibStd : Laid.LibStd w) (h : rotalaw07_lives.f  = some r) :
  Calls Tryz.prog 11 #[] w fun e w' => e = .returned (.bool r) ∧ Below w.heap.size w w':=by
 unfold rotalaw07_lives.f at h
 obtain rfl:=Option.some.inj h
 exact (Hof.lives_calls w hLLibStd.1).mono fun e W' ⟨he,hb⟩ => ⟨he,hb⟩
end Go.Proofs.YtdbpglhdicmhhaaGreatDoor.GA
end
