import Derived.Test.YtdbpglhdicmhhaaGreatDoorMLi6
import Derived.Test.YtdbpglhdicmhhaaGreatDoorMLi16
import Derived.Test.YtdbpglhdicmhhaaGreatDoorMLi9
set_option linter.unusedVariables false
set_option linter.unusedSimpArgs false
section
namespace Go.Proofs.YtdbpglhdicmhhaaGreatDoor.GA
open Go.RowKit Go.Proofs.YtdbpglhdicmhhaaGreatDoorW.PrintWords Go.Proofs.YtdbpglhdicmhhaaGreatDoorW.PrintLast Go.Proofs.YtdbpglhdicmhhaaGreatDoorW.PrintMore
def rotaref06_Decode.f (a0 : Int) : Option (Int × Int × Int × Int × Int × Int):=Hdec.decF a0
set_option maxHeartbeats 8000000 in
set_option maxRecDepth 100000 in
theorem rotaref06_Decode.calls (a0 : Int) (r1 : Int) (r2 : Int) (r3 : Int) (r4 : Int) (r5 : Int) (r6 : Int) (w : World) (h : rotaref06_Decode.f a0 = some (r1,r2,r3,r4,r5,r6)) :
  Calls Tryz.prog 40 #[.int .u32 a0] w fun e w' => e = .returned (.tuple #[.agg #[.int .i64 r1,.int .i64 r2,.int .i64 r3,.int .i64 r4,.int .i64 r5],.int .i64 r6]) ∧ Below w.heap.size w w':=by
 exact Hdec.decode_calls a0 _ _ _ _ _ _ w h
end Go.Proofs.YtdbpglhdicmhhaaGreatDoor.GA
end

section
namespace Go.Proofs.YtdbpglhdicmhhaaGreatDoor.GA
open Go.RowKit Go.Proofs.YtdbpglhdicmhhaaGreatDoorW.PrintWords Go.Proofs.YtdbpglhdicmhhaaGreatDoorW.PrintLast Go.Proofs.YtdbpglhdicmhhaaGreatDoorW.PrintMore
def rotaref06_Name.f (a0 : Int) : Option (ByteArray × Int):=(rotaref06_table.f a0).bind fun bt493 => (if bt493.2.2.2.2.2 = true then (some (bt493.1,0)) else (some ((⟨#[]⟩ : ByteArray),60)))
set_option maxHeartbeats 8000000 in
set_option maxRecDepth 100000 in
theorem rotaref06_Name.calls (a0 : Int) (r1 : ByteArray) (r2 : Int) (w : World) (h : rotaref06_Name.f a0 = some (r1,r2)) :
  Calls Tryz.prog 41 #[.int .i64 a0] w fun e w' => e = .returned (.tuple #[.string r1,.int .i64 r2]) ∧ Below w.heap.size w w':=by
 have hu133:=Tryz.underlying133
 have HB:=Aside0.mk (Below.refl w.heap.size w)
 have H : ((rotaref06_table.f a0).bind fun bt493 => (if bt493.2.2.2.2.2 = true then (some (bt493.1,0)) else (some ((⟨#[]⟩ : ByteArray),60)))) = some (r1,r2):=h
 clear h
 replace H:=Option.bind_eq_some_iff.mp H
 obtain ⟨⟨t493,t494,t495,t496,t497,t498⟩,A20,H⟩:=H
 replace H : (if t498 = true then (some (t493,0)) else (some ((⟨#[]⟩ : ByteArray),60))) = some (r1,r2):=H
 have A2:=Aside0.mk A20
 clear A20
 by_cases c3 : t498 = true
 ·subst c3
  have H1 : (some (t493,0)) = some (r1,r2):=by rw [if_pos rfl] at H; exact H
  clear H
  have H:=H1
  clear H1
  simp only [Option.some.injEq,Prod.mk.injEq] at H
  obtain ⟨rfl,rfl⟩:=H
  go_enter Tryz.func41,Tryz.ntmps41
  go_wp2_with (first | ((with_reducible refine gate_callee (f:=83) rfl ?_); refine goesL_ (some 8) rfl rfl Tryz.func83 (by kernel_rfl) rfl #[.int .i64 a0] rfl (by (try simp only [List.map_toArray,List.map_cons,List.map_nil]); first | done | rfl | (simp only [List.length_drop,List.length_take]; rfl)) ?_; (with_reducible refine (rotaref06_table.calls a0 t493 t494 t495 t496 t497 true _ A2.out).mono ?_); rintro e w4 ⟨rfl,hb⟩; refine ⟨_,rfl,?_⟩; have n0_:=Aside0.mk (below_step (by repeat (first | (with_reducible first | exact HB.out | apply below_alloc | apply pw_below_drewN | apply below_drew1) | exact HB.out)) hb); clear HB; have HB:=n0_; clear n0_; (try clear hb); (try clear hb2); (try clear hk); (try clear hi)) | ((with_reducible refine gate_dst (N:=4) rfl ?_); refine box_event ?hg (N:=4) ?hd (cs:=#[.string (⟨#[]⟩ : ByteArray),.int .i64 0,.int .i64 0,.string (⟨#[]⟩ : ByteArray),.string (⟨#[]⟩ : ByteArray)]) (t:=133) ?hr ?_; (case hd => rfl); (case hg => rfl); (case hr => first | (go_simp; done) | (go_simp; rfl)); intro gb499 hg w5 hbox hb; have n0_:=Aside0.mk (below_step (by repeat (first | (with_reducible first | exact HB.out | apply below_alloc | apply pw_below_drewN | apply below_drew1) | exact HB.out)) hb); have n1_:=Aside0.mk (hbox); have n2_:=Aside0.mk ((by rw [hg]; exact (below_size (by repeat (first | (with_reducible first | exact HB.out | apply below_alloc | apply pw_below_drewN | apply below_drew1) | exact HB.out))) : w.heap.size ≤ gb499)); have n3_:=Aside0.mk ((by rw [hg]; exact (below_size (by repeat (first | (with_reducible first | exact HB.out | apply below_alloc | apply pw_below_drewN | apply below_drew1) | exact HB.out))) : w.heap.size ≤ gb499)); clear HB; have HB:=n0_; have BK499:=n1_; have GW499:=n2_; have GE499:=n3_; clear n0_ n1_ n2_ n3_; clear hb hbox hg; have hcz6_0 : w5.cell? ⟨gb499,0,none⟩ = some (.string (⟨#[]⟩ : ByteArray)):=(blk_cell BK499.out 0).trans rfl; have hcz6_1 : w5.cell? ⟨gb499,1,none⟩ = some (.int .i64 0):=(blk_cell BK499.out 1).trans rfl; have hcz6_2 : w5.cell? ⟨gb499,2,none⟩ = some (.int .i64 0):=(blk_cell BK499.out 2).trans rfl; have hcz6_3 : w5.cell? ⟨gb499,3,none⟩ = some (.string (⟨#[]⟩ : ByteArray)):=(blk_cell BK499.out 3).trans rfl; have hcz6_4 : w5.cell? ⟨gb499,4,none⟩ = some (.string (⟨#[]⟩ : ByteArray)):=(blk_cell BK499.out 4).trans rfl; have hfz6_0:=blk_frozen BK499.out 0; have hfz6_1:=blk_frozen BK499.out 1; have hfz6_2:=blk_frozen BK499.out 2; have hfz6_3:=blk_frozen BK499.out 3; have hfz6_4:=blk_frozen BK499.out 4))
  go_ret2
  exact ⟨by first | rfl | (simp [errW_none,errW_some] <;> rfl) | (simp [*,errW_none,errW_some] <;> rfl),by repeat (first | (with_reducible first | exact HB.out | apply below_alloc | apply pw_below_drewN | apply below_drew1 | refine below_set ?_ GE499.out) | exact HB.out)⟩
 ·replace c3:=Bool.eq_false_iff.mpr c3
  subst c3
  have H1 : (some ((⟨#[]⟩ : ByteArray),60)) = some (r1,r2):=by rw [if_neg (show ¬ (false = true) by decide)] at H; exact H
  clear H
  have H:=H1
  clear H1
  simp only [Option.some.injEq,Prod.mk.injEq] at H
  obtain ⟨rfl,rfl⟩:=H
  go_enter Tryz.func41,Tryz.ntmps41
  go_wp2_with (first | ((with_reducible refine gate_callee (f:=83) rfl ?_); refine goesL_ (some 8) rfl rfl Tryz.func83 (by kernel_rfl) rfl #[.int .i64 a0] rfl (by (try simp only [List.map_toArray,List.map_cons,List.map_nil]); first | done | rfl | (simp only [List.length_drop,List.length_take]; rfl)) ?_; (with_reducible refine (rotaref06_table.calls a0 t493 t494 t495 t496 t497 false _ A2.out).mono ?_); rintro e w7 ⟨rfl,hb⟩; refine ⟨_,rfl,?_⟩; have n0_:=Aside0.mk (below_step (by repeat (first | (with_reducible first | exact HB.out | apply below_alloc | apply pw_below_drewN | apply below_drew1) | exact HB.out)) hb); clear HB; have HB:=n0_; clear n0_; (try clear hb); (try clear hb2); (try clear hk); (try clear hi)) | ((with_reducible refine gate_dst (N:=4) rfl ?_); refine box_event ?hg (N:=4) ?hd (cs:=#[.string (⟨#[]⟩ : ByteArray),.int .i64 0,.int .i64 0,.string (⟨#[]⟩ : ByteArray),.string (⟨#[]⟩ : ByteArray)]) (t:=133) ?hr ?_; (case hd => rfl); (case hg => rfl); (case hr => first | (go_simp; done) | (go_simp; rfl)); intro gb499 hg w8 hbox hb; have n0_:=Aside0.mk (below_step (by repeat (first | (with_reducible first | exact HB.out | apply below_alloc | apply pw_below_drewN | apply below_drew1) | exact HB.out)) hb); have n1_:=Aside0.mk (hbox); have n2_:=Aside0.mk ((by rw [hg]; exact (below_size (by repeat (first | (with_reducible first | exact HB.out | apply below_alloc | apply pw_below_drewN | apply below_drew1) | exact HB.out))) : w.heap.size ≤ gb499)); have n3_:=Aside0.mk ((by rw [hg]; exact (below_size (by repeat (first | (with_reducible first | exact HB.out | apply below_alloc | apply pw_below_drewN | apply below_drew1) | exact HB.out))) : w.heap.size ≤ gb499)); clear HB; have HB:=n0_; have BK499:=n1_; have GW499:=n2_; have GE499:=n3_; clear n0_ n1_ n2_ n3_; clear hb hbox hg; have hcz9_0 : w8.cell? ⟨gb499,0,none⟩ = some (.string (⟨#[]⟩ : ByteArray)):=(blk_cell BK499.out 0).trans rfl; have hcz9_1 : w8.cell? ⟨gb499,1,none⟩ = some (.int .i64 0):=(blk_cell BK499.out 1).trans rfl; have hcz9_2 : w8.cell? ⟨gb499,2,none⟩ = some (.int .i64 0):=(blk_cell BK499.out 2).trans rfl; have hcz9_3 : w8.cell? ⟨gb499,3,none⟩ = some (.string (⟨#[]⟩ : ByteArray)):=(blk_cell BK499.out 3).trans rfl; have hcz9_4 : w8.cell? ⟨gb499,4,none⟩ = some (.string (⟨#[]⟩ : ByteArray)):=(blk_cell BK499.out 4).trans rfl; have hfz9_0:=blk_frozen BK499.out 0; have hfz9_1:=blk_frozen BK499.out 1; have hfz9_2:=blk_frozen BK499.out 2; have hfz9_3:=blk_frozen BK499.out 3; have hfz9_4:=blk_frozen BK499.out 4))
  go_ret2
  exact ⟨by first | rfl | (simp [errW_none,errW_some] <;> rfl) | (simp [*,errW_none,errW_some] <;> rfl),by repeat (first | (with_reducible first | exact HB.out | apply below_alloc | apply pw_below_drewN | apply below_drew1 | refine below_set ?_ GE499.out) | exact HB.out)⟩
end Go.Proofs.YtdbpglhdicmhhaaGreatDoor.GA
end
