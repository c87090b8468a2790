import Derived.Test.YtdbpglhdicmhhaaGreatDoorMBk4
import Derived.Test.YtdbpglhdicmhhaaGreatDoorMBk17
set_option linter.unusedVariables false
set_option linter.unusedSimpArgs false
section
namespace Go.Proofs.YtdbpglhdicmhhaaGreatDoor.GA
open Go.RowKit Go.Proofs.YtdbpglhdicmhhaaGreatDoorW.PrintWords Go.Proofs.YtdbpglhdicmhhaaGreatDoorW.PrintLast Go.Proofs.YtdbpglhdicmhhaaGreatDoorW.PrintMore
mutual
def listing_caseLine.j0 : Nat → List Int → ByteArray → Option (ByteArray × Bool)
 | 0,_,_ => none
 | k + 1,x4,x5 => listing_caseLine.l0 k x5 x4 (x4.length : Int) 0
def listing_caseLine.l0 : Nat → ByteArray → List Int → Int → Int → Option (ByteArray × Bool)
 | 0,_,_,_,_ => none
 | k + 1,x5,x21,x22,x23 => if x23 < x22 then (if 0 ≤ x23 then (if x23 < (x21.length : Int) then (if (rd x21 x23) < 0 then (some ((⟨#[]⟩ : ByteArray),false)) else (if (rd x21 x23) ≥ 16 then (some ((⟨#[]⟩ : ByteArray),false)) else ((strconv_Itoa_38.f (rd x21 x23)).bind fun t559 => (if 2 + t559.size ≤ 9223372036854775807 then (if x5.size + ((⟨#[32,114]⟩ : ByteArray) ++ t559).size ≤ 9223372036854775807 then (listing_caseLine.l0 k (x5 ++ ((⟨#[32,114]⟩ : ByteArray) ++ t559)) x21 x22 (wrap64 (x23 + 1))) else (none)) else (none))))) else (none)) else (none)) else (some (x5,true))
end
def listing_caseLine.f (k : Nat) (a0_0 : Bool) (a0_1 : Int) (a0_2 : Int) (a0_3 : Int) : Option (ByteArray × Bool):=(some (([a0_1,a0_2] : List Int) : List Int)).bind fun y552 => (if a0_0 = true then (listing_caseLine.j0 k y552 (⟨#[115,101,110,100]⟩ : ByteArray)) else (if y552.length < 17592186044416 then (listing_caseLine.j0 k (y552 ++ [a0_3]) (⟨#[114,101,99,118]⟩ : ByteArray)) else (none)))
set_option maxHeartbeats 8000000 in
set_option maxRecDepth 100000 in
theorem listing_caseLine.calls (k : Nat) (a0_0 : Bool) (a0_1 : Int) (a0_2 : Int) (a0_3 : Int) (r1 : ByteArray) (r2 : Bool) (w : World) (hLLibStd : Laid.LibStd w) (h : listing_caseLine.f k a0_0 a0_1 a0_2 a0_3 = some (r1,r2)) :
  Calls Tryz.prog 48 #[.agg #[.bool a0_0,.int .i64 a0_1,.int .i64 a0_2,.int .i64 a0_3]] w fun e w' => e = .returned (.tuple #[.string r1,.bool r2]) ∧ Below w.heap.size w w':=by
 have hu46:=Tryz.underlying46
 have HB:=Aside0.mk (Below.refl w.heap.size w)
 have H : ((some (([a0_1,a0_2] : List Int) : List Int)).bind fun y552 => (if a0_0 = true then (listing_caseLine.j0 k y552 (⟨#[115,101,110,100]⟩ : ByteArray)) else (if y552.length < 17592186044416 then (listing_caseLine.j0 k (y552 ++ [a0_3]) (⟨#[114,101,99,118]⟩ : ByteArray)) else (none)))) = some (r1,r2):=h
 clear h
 obtain ⟨y552,hy552⟩ : ∃ y_ : List Int,y_ = (([a0_1,a0_2] : List Int)):=⟨_,rfl⟩
 replace H : (if a0_0 = true then (listing_caseLine.j0 k y552 (⟨#[115,101,110,100]⟩ : ByteArray)) else (if y552.length < 17592186044416 then (listing_caseLine.j0 k (y552 ++ [a0_3]) (⟨#[114,101,99,118]⟩ : ByteArray)) else (none))) = some (r1,r2):=by first | (rw [hy552]; with_reducible exact H) | (have H2_:=(Option.bind_some _ _).symm.trans H; rw [hy552]; with_reducible exact H2_) | (have H2_:=(Option.bind_some _ _).symm.trans H; with_reducible exact H2_) | with_reducible exact H | (rw [hy552]; exact H) | exact H
 have Ny552:=Aside0.mk hy552
 clear hy552
 have HC2:=Aside0.mk H
 clear H
 go_enter Tryz.func48,Tryz.ntmps48
 go_upto_if 15 with (first | ((with_reducible refine gate_dst (N:=1) rfl ?_); refine box_event ?hg (N:=1) ?hd (cs:=#[.bool a0_0,.int .i64 a0_1,.int .i64 a0_2,.int .i64 a0_3]) (t:=46) ?hr ?_; (case hd => rfl); (case hg => rfl); (case hr => first | (go_simp; done) | (go_simp; rfl)); intro gb551 hg w3 hbox hb; have n0_:=Aside0.mk (below_step (by repeat (first | (with_reducible first | exact HB.out | apply below_alloc | apply pw_below_drewN | apply below_drew1) | exact HB.out)) hb); have n1_:=Aside0.mk (hbox); have n2_:=Aside0.mk ((by rw [hg]; exact (below_size (by repeat (first | (with_reducible first | exact HB.out | apply below_alloc | apply pw_below_drewN | apply below_drew1) | exact HB.out))) : w.heap.size ≤ gb551)); have n3_:=Aside0.mk ((by rw [hg]; exact (below_size (by repeat (first | (with_reducible first | exact HB.out | apply below_alloc | apply pw_below_drewN | apply below_drew1) | exact HB.out))) : w.heap.size ≤ gb551)); clear HB; have HB:=n0_; have BK551:=n1_; have GW551:=n2_; have GE551:=n3_; clear n0_ n1_ n2_ n3_; clear hb hbox hg; have hcz4_0 : w3.cell? ⟨gb551,0,none⟩ = some (.bool a0_0):=(blk_cell BK551.out 0).trans rfl; have hcz4_1 : w3.cell? ⟨gb551,1,none⟩ = some (.int .i64 a0_1):=(blk_cell BK551.out 1).trans rfl; have hcz4_2 : w3.cell? ⟨gb551,2,none⟩ = some (.int .i64 a0_2):=(blk_cell BK551.out 2).trans rfl; have hcz4_3 : w3.cell? ⟨gb551,3,none⟩ = some (.int .i64 a0_3):=(blk_cell BK551.out 3).trans rfl; have hfz4_0:=blk_frozen BK551.out 0; have hfz4_1:=blk_frozen BK551.out 1; have hfz4_2:=blk_frozen BK551.out 2; have hfz4_3:=blk_frozen BK551.out 3) | ((with_reducible refine gate_dst (N:=12) rfl ?_); refine Kd.R_lit (Kd.int .i64) _ 3 ?hg (N:=12) ?hd (xs:=([a0_1,a0_2] : List Int)) (inner:=[.int .i64 a0_1,.int .i64 a0_2]) (ok:=fun _ => True) (okp:=fun _ => True) ?hr ?hp (fun _ hk => hk) trivial (Below.refl _ _) (Nat.le_refl _) (by simp) ?_; (case hd => rfl); (case hg => rfl); (case hr => first | (go_simp; done) | (go_simp; rfl)); (case hp => exact (Reps.one (show Kd.M (Kd.int .i64) _ _ _ a0_1 [.int .i64 a0_1] from rfl) (Reps.one (show Kd.M (Kd.int .i64) _ _ _ a0_2 [.int .i64 a0_2] from rfl) (Reps.none _ _)))); intro v553 w5 ho6 hb hg_ hnew_; clear hg_ hnew_; (first | rw [← Ny552.out] at ho6 | (simp only [Int.reduceToNat] at ho6; rw [← Ny552.out] at ho6)); have n0_:=Aside0.mk (Kd.R_lower ho6 (below_size (by repeat (first | (with_reducible first | exact HB.out | apply below_alloc | apply pw_below_drewN | apply below_drew1 | refine below_set ?_ GE551.out) | exact HB.out)))); have n1_:=Aside0.mk (blk_below (g:=gb551) (o:=.cells #[.bool a0_0,.int .i64 a0_1,.int .i64 a0_2,.int .i64 a0_3] 46 (0,0)) (by (with_reducible repeat (first | refine blk_drewN ?_ _ | refine blk_drew ?_ | refine blk_alloc ?_ _)); exact BK551.out) hb); have n2_:=Aside0.mk (below_step (by repeat (first | (with_reducible first | exact HB.out | apply below_alloc | apply pw_below_drewN | apply below_drew1 | refine below_set ?_ GE551.out) | exact HB.out)) hb); clear BK551; clear HB; have HO554:=n0_; have BK551:=n1_; have HB:=n2_; clear n0_ n1_ n2_; clear hb ho6; have hcz7_0 : w5.cell? ⟨gb551,0,none⟩ = some (.bool a0_0):=(blk_cell BK551.out 0).trans rfl; have hcz7_1 : w5.cell? ⟨gb551,1,none⟩ = some (.int .i64 a0_1):=(blk_cell BK551.out 1).trans rfl; have hcz7_2 : w5.cell? ⟨gb551,2,none⟩ = some (.int .i64 a0_2):=(blk_cell BK551.out 2).trans rfl; have hcz7_3 : w5.cell? ⟨gb551,3,none⟩ = some (.int .i64 a0_3):=(blk_cell BK551.out 3).trans rfl; have hfz7_0:=blk_frozen BK551.out 0; have hfz7_1:=blk_frozen BK551.out 1; have hfz7_2:=blk_frozen BK551.out 2; have hfz7_3:=blk_frozen BK551.out 3))
 (try simp only [Act.put,sAz,sCz,sCs])
 go_cut [4,5] (fun v4 v5 wc => ∃ (kq : Nat) (x4_1 : List Int) (x5_1 : ByteArray),v5 = .string x5_1 ∧ Aside0 (listing_caseLine.j0 kq x4_1 x5_1 = some (r1,r2)) ∧ Aside0 (kq ≤ k) ∧ Aside0 (Kd.R (Kd.int .i64) 3 wc w.heap.size (fun _ => True) v4 x4_1) ∧ Aside0 (wc.heap[gb551]? = some (.cells #[.bool a0_0,.int .i64 a0_1,.int .i64 a0_2,.int .i64 a0_3] 46 (0,0))) ∧ Aside0 (Below w.heap.size w wc))
 case first =>
  have H:=HC2.out
  clear HC2
  by_cases c8 : a0_0 = true
  ·subst c8
   have H1 : (listing_caseLine.j0 k y552 (⟨#[115,101,110,100]⟩ : ByteArray)) = some (r1,r2):=by rw [if_pos rfl] at H; exact H
   clear H
   have H:=H1
   clear H1
   have H':=Aside0.mk H
   clear H
   go_wp2
   go_meet
   case rel => exact ⟨_,(y552),((⟨#[115,101,110,100]⟩ : ByteArray)),(by first | rfl | (simp; done) | (simp [*]; done)),H',⟨by first | omega | exact Nat.le_refl _⟩,⟨by (with_reducible repeat (first | apply Kd.R_alloc | apply Kd.R_drewN | apply Kd.R_drew)); exact HO554.out⟩,⟨by (with_reducible repeat (first | refine blk_drewN ?_ _ | refine blk_drew ?_ | refine blk_alloc ?_ _)); exact BK551.out⟩,⟨by repeat (first | (with_reducible first | exact HB.out | apply below_alloc | apply pw_below_drewN | apply below_drew1 | refine below_set ?_ GE551.out) | exact HB.out)⟩⟩
  ·replace c8:=Bool.eq_false_iff.mpr c8
   subst c8
   have H1 : (if y552.length < 17592186044416 then (listing_caseLine.j0 k (y552 ++ [a0_3]) (⟨#[114,101,99,118]⟩ : ByteArray)) else (none)) = some (r1,r2):=by rw [if_neg (show ¬ (false = true) by decide)] at H; exact H
   clear H
   have H:=H1
   clear H1
   by_cases c9 : y552.length < 17592186044416
   ·rw [if_pos c9] at H
    have LMc9:=Aside0.mk c9
    clear c9
    obtain ⟨y555,hy555⟩ : ∃ y_ : List Int,y_ = (y552 ++ [a0_3]):=⟨_,rfl⟩
    replace H : (listing_caseLine.j0 k y555 (⟨#[114,101,99,118]⟩ : ByteArray)) = some (r1,r2):=by first | (rw [hy555]; with_reducible exact H) | (have H2_:=(Option.bind_some _ _).symm.trans H; rw [hy555]; with_reducible exact H2_) | (have H2_:=(Option.bind_some _ _).symm.trans H; with_reducible exact H2_) | with_reducible exact H | (rw [hy555]; exact H) | exact H
    have Ny555:=Aside0.mk hy555
    clear hy555
    have H':=Aside0.mk H
    clear H
    have hcz10_0 : w5.cell? ⟨gb551,0,none⟩ = some (.bool false):=(blk_cell BK551.out 0).trans rfl
    have hcz10_1 : w5.cell? ⟨gb551,1,none⟩ = some (.int .i64 a0_1):=(blk_cell BK551.out 1).trans rfl
    have hcz10_2 : w5.cell? ⟨gb551,2,none⟩ = some (.int .i64 a0_2):=(blk_cell BK551.out 2).trans rfl
    have hcz10_3 : w5.cell? ⟨gb551,3,none⟩ = some (.int .i64 a0_3):=(blk_cell BK551.out 3).trans rfl
    have hfz10_0:=blk_frozen BK551.out 0
    have hfz10_1:=blk_frozen BK551.out 1
    have hfz10_2:=blk_frozen BK551.out 2
    have hfz10_3:=blk_frozen BK551.out 3
    go_wp2_with (first | ((with_reducible refine gate_builtin (b:=.append) (xs:=#[.tmp 16,.tmp 19]) rfl ?_); at_builtin; refine Kd.R_append (Kd.int .i64) (w0:=w) w.heap.size rfl (.tmp 16) (.tmp 19) 52 3 (.int .i64 0) 8 rfl Tryz.underlying52 info3 rfl (by decide) (by omega) v553 y552 a0_3 [.int .i64 a0_3] (fun _ => True) (fun _ => False) rfl rfl ?aP (fun _ hk => hk.elim) ?aF ?aO ?aB ?aS ?aL ?_; (case aP => exact rfl); (case aB => exact (by repeat (first | (with_reducible first | exact HB.out | apply below_alloc | apply pw_below_drewN | apply below_drew1 | refine below_set ?_ GE551.out) | exact HB.out))); (case aF => exact (fun _ _ => trivial)); (case aO => exact (by (with_reducible repeat (first | apply Kd.R_alloc | apply Kd.R_drewN | apply Kd.R_drew)); exact HO554.out)); (case aS => exact (below_size (by repeat (first | (with_reducible first | exact HB.out | apply below_alloc | apply pw_below_drewN | apply below_drew1 | refine below_set ?_ GE551.out) | exact HB.out)))); (case aL => have:=LMc9.out; omega); intro v556 w11 ho hb hg hat; rw [← Ny555.out] at ho; have n0_:=Aside0.mk (blk_grown (g:=gb551) (o:=.cells #[.bool false,.int .i64 a0_1,.int .i64 a0_2,.int .i64 a0_3] 46 (0,0)) (by (with_reducible repeat (first | refine blk_drewN ?_ _ | refine blk_drew ?_ | refine blk_alloc ?_ _)); exact BK551.out) hg (Kd.R_ne HO554.out BK551.out (by decide))); have n1_:=Aside0.mk (hb); have n2_:=Aside0.mk (ho); clear BK551; clear HB; clear HO554; have BK551:=n0_; have HB:=n1_; have HO557:=n2_; clear n0_ n1_ n2_; clear ho hb hg hat))
    go_meet
    case rel => exact ⟨_,(y555),((⟨#[114,101,99,118]⟩ : ByteArray)),(by first | rfl | (simp; done) | (simp [*]; done)),H',⟨by first | omega | exact Nat.le_refl _⟩,⟨by (with_reducible repeat (first | apply Kd.R_alloc | apply Kd.R_drewN | apply Kd.R_drew)); exact HO557.out⟩,⟨by (with_reducible repeat (first | refine blk_drewN ?_ _ | refine blk_drew ?_ | refine blk_alloc ?_ _)); exact BK551.out⟩,⟨by repeat (first | (with_reducible first | exact HB.out | apply below_alloc | apply pw_below_drewN | apply below_drew1 | refine below_set ?_ GE551.out) | exact HB.out)⟩⟩
   ·rw [if_neg c9] at H
    exact absurd H (by simp)
 case rest =>
  clear HC2
  try clear p2
  try clear c4
  try clear c8
  try clear c9
  try clear hcz10_0
  try clear hcz10_1
  try clear hcz10_2
  try clear hcz10_3
  try clear hcz4_0
  try clear hcz4_1
  try clear hcz4_2
  try clear hcz4_3
  try clear hcz7_0
  try clear hcz7_1
  try clear hcz7_2
  try clear hcz7_3
  try clear hfz10_0
  try clear hfz10_1
  try clear hfz10_2
  try clear hfz10_3
  try clear hfz4_0
  try clear hfz4_1
  try clear hfz4_2
  try clear hfz4_3
  try clear hfz7_0
  try clear hfz7_1
  try clear hfz7_2
  try clear hfz7_3
  obtain ⟨kq,x4_1,x5_1,rfl,HA,HJ1,HO_4,BK551,HB⟩:=hcut
  cases kq with
  | zero => exact absurd HA.out (by simp [listing_caseLine.j0])
  | succ kj1 =>
   have H:=HA.out
   clear HA
   simp only [listing_caseLine.j0] at H
   have H':=Aside0.mk H
   clear H
   obtain ⟨Ao12,co12,eo12⟩:=Kd.R_slice HO_4.out
   subst eo12
   go_wp2
   go_loopg [5,23] kj1 (fun kq v5 v23 w' => ∃ (x5_2 : ByteArray) (x23_2 : Int),v5 = .string x5_2 ∧ v23 = .int .i64 x23_2 ∧ Aside0 (listing_caseLine.l0 kq x5_2 x4_1 (x4_1.length : Int) x23_2 = some (r1,r2)) ∧ Aside0 (kq ≤ kj1) ∧ Aside0 (Kd.R (Kd.int .i64) 3 w' w.heap.size (fun _ => True) (.slice Ao12 x4_1.length co12) x4_1) ∧ Aside0 (w'.heap[gb551]? = some (.cells #[.bool a0_0,.int .i64 a0_1,.int .i64 a0_2,.int .i64 a0_3] 46 (0,0))) ∧ Aside0 (Below w.heap.size w w'))
   case atStart => exact ⟨(x5_1),(0),(by first | rfl | (simp; done) | (simp [*]; done)),(by first | rfl | (simp; done) | (simp [*]; done)),H',⟨Nat.le_refl _⟩,⟨by (with_reducible repeat (first | apply Kd.R_alloc | apply Kd.R_drewN | apply Kd.R_drew)); exact HO_4.out⟩,⟨by (with_reducible repeat (first | refine blk_drewN ?_ _ | refine blk_drew ?_ | refine blk_alloc ?_ _)); exact BK551.out⟩,⟨by repeat (first | (with_reducible first | exact HB.out | apply below_alloc | apply pw_below_drewN | apply below_drew1 | refine below_set ?_ GE551.out) | exact HB.out)⟩⟩
   case round =>
    clear H'
    try clear p2
    try clear c4
    try clear c8
    try clear c9
    try clear hcz10_0
    try clear hcz10_1
    try clear hcz10_2
    try clear hcz10_3
    try clear hcz4_0
    try clear hcz4_1
    try clear hcz4_2
    try clear hcz4_3
    try clear hcz7_0
    try clear hcz7_1
    try clear hcz7_2
    try clear hcz7_3
    try clear hfz10_0
    try clear hfz10_1
    try clear hfz10_2
    try clear hfz10_3
    try clear hfz4_0
    try clear hfz4_1
    try clear hfz4_2
    try clear hfz4_3
    try clear hfz7_0
    try clear hfz7_1
    try clear hfz7_2
    try clear hfz7_3
    try clear p2
    obtain ⟨x5_2,x23_2,rfl,rfl,HA,HK2,HO_21,BK551,HB⟩:=hrel
    cases gk with
    | zero => exact absurd HA.out (by simp [listing_caseLine.l0])
    | succ k2 =>
     have H:=HA.out
     clear HA
     simp only [listing_caseLine.l0] at H
     by_cases c13 : x23_2 < (x4_1.length : Int)
     ·rw [if_pos c13] at H
      have c13b0 : decide (x23_2 < (x4_1.length : Int)) = true:=decide_eq_true c13
      clear c13
      by_cases c14 : 0 ≤ x23_2
      ·rw [if_pos c14] at H
       have c14b0 : decide (0 ≤ x23_2) = true:=decide_eq_true c14
       clear c14
       by_cases c15 : x23_2 < (x4_1.length : Int)
       ·rw [if_pos c15] at H
        have c15b0 : decide (x23_2 < (x4_1.length : Int)) = true:=decide_eq_true c15
        clear c15
        by_cases c16 : (rd x4_1 x23_2) < 0
        ·rw [if_pos c16] at H
         have c16b0 : decide ((rd x4_1 x23_2) < 0) = true:=decide_eq_true c16
         clear c16
         simp only [Option.some.injEq,Prod.mk.injEq] at H
         obtain ⟨rfl,rfl⟩:=H
         have p558 : 0 ≤ (x23_2 : Int):=of_decide_eq_true (by first | (with_reducible assumption) | assumption)
         have q558 : x23_2 < (x4_1.length : Int):=of_decide_eq_true (by first | (with_reducible assumption) | assumption)
         obtain ⟨ad558,e558,hx558_0⟩:=Kd.at_int (Kd.R_reads' HO_21.out).2.2 x23_2 p558 q558
         cases e558
         replace p558:=eq_true p558
         replace q558:=eq_true q558
         go_wp2
         go_ret2
         exact ⟨by first | rfl | (simp [errW_none,errW_some] <;> rfl) | (simp [*,errW_none,errW_some] <;> rfl),by repeat (first | (with_reducible first | exact HB.out | apply below_alloc | apply pw_below_drewN | apply below_drew1 | refine below_set ?_ GE551.out) | exact HB.out)⟩
        ·rw [if_neg c16] at H
         have c16b0 : decide ((rd x4_1 x23_2) < 0) = false:=decide_eq_false c16
         clear c16
         by_cases c17 : (rd x4_1 x23_2) ≥ 16
         ·rw [if_pos c17] at H
          have c17b0 : decide (16 ≤ (rd x4_1 x23_2)) = true:=decide_eq_true c17
          clear c17
          simp only [Option.some.injEq,Prod.mk.injEq] at H
          obtain ⟨rfl,rfl⟩:=H
          have p558 : 0 ≤ (x23_2 : Int):=of_decide_eq_true (by first | (with_reducible assumption) | assumption)
          have q558 : x23_2 < (x4_1.length : Int):=of_decide_eq_true (by first | (with_reducible assumption) | assumption)
          obtain ⟨ad558,e558,hx558_0⟩:=Kd.at_int (Kd.R_reads' HO_21.out).2.2 x23_2 p558 q558
          cases e558
          replace p558:=eq_true p558
          replace q558:=eq_true q558
          go_wp2
          go_ret2
          exact ⟨by first | rfl | (simp [errW_none,errW_some] <;> rfl) | (simp [*,errW_none,errW_some] <;> rfl),by repeat (first | (with_reducible first | exact HB.out | apply below_alloc | apply pw_below_drewN | apply below_drew1 | refine below_set ?_ GE551.out) | exact HB.out)⟩
         ·rw [if_neg c17] at H
          have c17b0 : decide (16 ≤ (rd x4_1 x23_2)) = false:=decide_eq_false c17
          clear c17
          replace H:=Option.bind_eq_some_iff.mp H
          obtain ⟨t559,A180,H⟩:=H
          replace H : (if 2 + t559.size ≤ 9223372036854775807 then (if x5_2.size + ((⟨#[32,114]⟩ : ByteArray) ++ t559).size ≤ 9223372036854775807 then (listing_caseLine.l0 k2 (x5_2 ++ ((⟨#[32,114]⟩ : ByteArray) ++ t559)) x4_1 (x4_1.length : Int) (wrap64 (x23_2 + 1))) else (none)) else (none)) = some (r1,r2):=H
          have A18:=Aside0.mk A180
          clear A180
          by_cases c19 : 2 + t559.size ≤ 9223372036854775807
          ·rw [if_pos c19] at H
           have c19b0:=eq_true c19
           have c19b1 : decide (2 + t559.size ≤ 9223372036854775807) = true:=decide_eq_true c19
           try have c19b2 : (9223372036854775807 < 2 + t559.size) = False:=eq_false (Nat.not_lt.2 c19)
           by_cases c20 : x5_2.size + ((⟨#[32,114]⟩ : ByteArray) ++ t559).size ≤ 9223372036854775807
           ·rw [if_pos c20] at H
            have c20b0:=eq_true c20
            have c20b1 : decide (x5_2.size + ((⟨#[32,114]⟩ : ByteArray) ++ t559).size ≤ 9223372036854775807) = true:=decide_eq_true c20
            try have c20b2 : (9223372036854775807 < x5_2.size + ((⟨#[32,114]⟩ : ByteArray) ++ t559).size) = False:=eq_false (Nat.not_lt.2 c20)
            have c20b3 : (9223372036854775807 < x5_2.size + (2 + t559.size)) = False:=eq_false (Nat.not_lt.2 (by have h_:=c20; simp only [ByteArray.size_append] at h_; exact h_))
            have H':=Aside0.mk H
            clear H
            have p558 : 0 ≤ (x23_2 : Int):=of_decide_eq_true (by first | (with_reducible assumption) | assumption)
            have q558 : x23_2 < (x4_1.length : Int):=of_decide_eq_true (by first | (with_reducible assumption) | assumption)
            obtain ⟨ad558,e558,hx558_0⟩:=Kd.at_int (Kd.R_reads' HO_21.out).2.2 x23_2 p558 q558
            cases e558
            replace p558:=eq_true p558
            replace q558:=eq_true q558
            go_wp2_with (first | ((with_reducible refine gate_callee (f:=38) rfl ?_); refine goesL_ (some 35) rfl rfl Tryz.func38 (by kernel_rfl) rfl #[.int .i64 (rd x4_1 x23_2)] rfl (by (try simp only [List.map_toArray,List.map_cons,List.map_nil]); first | done | rfl | (simp only [List.length_drop,List.length_take]; rfl)) ?_; (with_reducible refine (strconv_Itoa_38.calls (rd x4_1 x23_2) t559 _ ?side1 A18.out).mono ?_); (case side1 => first | exact hLLibStd | exact hLLibStd.below (by repeat (first | (with_reducible first | exact HB.out | apply below_alloc | apply pw_below_drewN | apply below_drew1 | refine below_set ?_ GE551.out) | exact HB.out))); rintro e w21 ⟨rfl,hb⟩; refine ⟨_,rfl,?_⟩; have n0_:=Aside0.mk (Kd.R_below (by (with_reducible repeat (first | apply Kd.R_alloc | apply Kd.R_drewN | apply Kd.R_drew)); exact HO_21.out) hb); have n1_:=Aside0.mk (blk_below (g:=gb551) (o:=.cells #[.bool a0_0,.int .i64 a0_1,.int .i64 a0_2,.int .i64 a0_3] 46 (0,0)) (by (with_reducible repeat (first | refine blk_drewN ?_ _ | refine blk_drew ?_ | refine blk_alloc ?_ _)); exact BK551.out) hb); have n2_:=Aside0.mk (below_step (by repeat (first | (with_reducible first | exact HB.out | apply below_alloc | apply pw_below_drewN | apply below_drew1 | refine below_set ?_ GE551.out) | exact HB.out)) hb); clear HO_21; clear BK551; clear HB; have HO_21:=n0_; have BK551:=n1_; have HB:=n2_; clear n0_ n1_ n2_; (try clear hb); (try clear hb2); (try clear hk); (try clear hi)))
            go_roundg k2
            case measure => have:=HJ1.out; have:=HK2.out; omega
            case rel => exact ⟨(x5_2 ++ ((⟨#[32,114]⟩ : ByteArray) ++ t559)),(wrap64 (x23_2 + 1)),(by first | rfl | (simp; done) | (simp [*]; done)),(by first | rfl | (simp; done) | (simp [*]; done)),H',⟨by have:=HJ1.out; have:=HK2.out; omega⟩,⟨by (with_reducible repeat (first | apply Kd.R_alloc | apply Kd.R_drewN | apply Kd.R_drew)); exact HO_21.out⟩,⟨by (with_reducible repeat (first | refine blk_drewN ?_ _ | refine blk_drew ?_ | refine blk_alloc ?_ _)); exact BK551.out⟩,⟨by repeat (first | (with_reducible first | exact HB.out | apply below_alloc | apply pw_below_drewN | apply below_drew1 | refine below_set ?_ GE551.out) | exact HB.out)⟩⟩
           ·rw [if_neg c20] at H
            exact absurd H (by simp)
          ·rw [if_neg c19] at H
           exact absurd H (by simp)
       ·rw [if_neg c15] at H
        exact absurd H (by simp)
      ·rw [if_neg c14] at H
       exact absurd H (by simp)
     ·rw [if_neg c13] at H
      have c13b0 : decide (x23_2 < (x4_1.length : Int)) = false:=decide_eq_false c13
      clear c13
      simp only [Option.some.injEq,Prod.mk.injEq] at H
      obtain ⟨rfl,rfl⟩:=H
      go_wp2
      go_ret2
      exact ⟨by first | rfl | (simp [errW_none,errW_some] <;> rfl) | (simp [*,errW_none,errW_some] <;> rfl),by repeat (first | (with_reducible first | exact HB.out | apply below_alloc | apply pw_below_drewN | apply below_drew1 | refine below_set ?_ GE551.out) | exact HB.out)⟩
end Go.Proofs.YtdbpglhdicmhhaaGreatDoor.GA
end
