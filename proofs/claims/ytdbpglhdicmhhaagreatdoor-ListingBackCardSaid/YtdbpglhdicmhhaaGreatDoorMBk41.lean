import Derived.Test.YtdbpglhdicmhhaaGreatDoorMBk4
import Derived.Test.YtdbpglhdicmhhaaGreatDoorMBk40
import Derived.Test.YtdbpglhdicmhhaaGreatDoorMBk16
set_option linter.unusedVariables false
set_option linter.unusedSimpArgs false
section
namespace Go.Proofs.YtdbpglhdicmhhaaGreatDoor.GA
open Go.RowKit Go.Proofs.YtdbpglhdicmhhaaGreatDoorW.PrintWords Go.Proofs.YtdbpglhdicmhhaaGreatDoorW.PrintLast Go.Proofs.YtdbpglhdicmhhaaGreatDoorW.PrintMore
def rotalaw07_long.l0 : Nat → Int → Int → List Int → List (S41) → List (S44) → Option (Bool)
 | 0,_,_,_,_,_ => none
 | k + 1,x3,x4,x547000,x547001,x547002 => if x4 < (x547002.length : Int) then (if x3 ≤ 262144 then (if 0 ≤ x4 then (rotalaw07_long.l0 k (wrap64 (x3 + (((rd_T44 x547002 x4).f0).length : Int))) (wrap64 (x4 + 1)) x547000 x547001 x547002) else (none)) else (some (decide (x3 > 262144)))) else (some (decide (x3 > 262144)))
def rotalaw07_long.f (k : Nat) (l0_0 : List Int) (l0_1 : List (S41)) (l0_2 : List (S44)) : Option (Bool):=rotalaw07_long.l0 k (wrap64 ((l0_0.length : Int) + (l0_2.length : Int))) 0 l0_0 l0_1 l0_2
set_option maxHeartbeats 8000000 in
set_option maxRecDepth 100000 in
theorem rotalaw07_long.calls (k : Nat) (A0_0 : Option Addr) (c0_0 : Nat) (l0_0 : List Int) (A0_1 : Option Addr) (c0_1 : Nat) (l0_1 : List (S41)) (A0_2 : Option Addr) (c0_2 : Nat) (l0_2 : List (S44)) (r : Bool) (w : World) (hr0_0 : Kd.C (Kd.int .u32) w A0_0 l0_0.length l0_0) (hc0_0 : l0_0.length ≤ c0_0) (hr0_1 : Kd.C k41 w A0_1 l0_1.length l0_1) (hc0_1 : l0_1.length ≤ c0_1) (hr0_2 : Kd.C k44 w A0_2 l0_2.length l0_2) (hc0_2 : l0_2.length ≤ c0_2) (h : rotalaw07_long.f k l0_0 l0_1 l0_2 = some r) :
  Calls Tryz.prog 16 #[.agg #[.slice A0_0 l0_0.length c0_0,.slice A0_1 l0_1.length c0_1,.slice A0_2 l0_2.length c0_2]] w fun e w' => e = .returned (.bool r) ∧ Below w.heap.size w w':=by
 have hu26:=Tryz.underlying26
 have HR0_0:=Aside0.mk hr0_0
 have HC0_0:=Aside0.mk hc0_0
 clear hr0_0 hc0_0
 have HR0_1:=Aside0.mk hr0_1
 have HC0_1:=Aside0.mk hc0_1
 clear hr0_1 hc0_1
 have HR0_2:=Aside0.mk hr0_2
 have HC0_2:=Aside0.mk hc0_2
 clear hr0_2 hc0_2
 have HB:=Aside0.mk (Below.refl w.heap.size w)
 have H : (rotalaw07_long.l0 k (wrap64 ((l0_0.length : Int) + (l0_2.length : Int))) 0 l0_0 l0_1 l0_2) = some r:=h
 clear h
 have H':=Aside0.mk H
 clear H
 go_enter Tryz.func16,Tryz.ntmps16
 go_wp2_with (first | ((with_reducible refine gate_dst (N:=1) rfl ?_); refine box_event ?hg (N:=1) ?hd (cs:=#[.slice A0_0 l0_0.length c0_0,.slice A0_1 l0_1.length c0_1,.slice A0_2 l0_2.length c0_2]) (t:=26) ?hr ?_; (case hd => rfl); (case hg => rfl); (case hr => first | (go_simp; done) | (go_simp; rfl)); intro gb546 hg w2 hbox hb; have n0_:=Aside0.mk (below_step (by repeat (first | (with_reducible first | exact HB.out | apply below_alloc | apply pw_below_drewN | apply below_drew1) | exact HB.out)) hb); have n1_:=Aside0.mk (hbox); have n2_:=Aside0.mk ((by rw [hg]; exact (below_size (by repeat (first | (with_reducible first | exact HB.out | apply below_alloc | apply pw_below_drewN | apply below_drew1) | exact HB.out))) : w.heap.size ≤ gb546)); have n3_:=Aside0.mk ((by rw [hg]; exact (below_size (by repeat (first | (with_reducible first | exact HB.out | apply below_alloc | apply pw_below_drewN | apply below_drew1) | exact HB.out))) : w.heap.size ≤ gb546)); clear HB; have HB:=n0_; have BK546:=n1_; have GW546:=n2_; have GE546:=n3_; clear n0_ n1_ n2_ n3_; clear hb hbox hg; have hcz3_0 : w2.cell? ⟨gb546,0,none⟩ = some (.slice A0_0 l0_0.length c0_0):=(blk_cell BK546.out 0).trans rfl; have hcz3_1 : w2.cell? ⟨gb546,1,none⟩ = some (.slice A0_1 l0_1.length c0_1):=(blk_cell BK546.out 1).trans rfl; have hcz3_2 : w2.cell? ⟨gb546,2,none⟩ = some (.slice A0_2 l0_2.length c0_2):=(blk_cell BK546.out 2).trans rfl; have hfz3_0:=blk_frozen BK546.out 0; have hfz3_1:=blk_frozen BK546.out 1; have hfz3_2:=blk_frozen BK546.out 2))
 go_loopg [3,4] k (fun kq v3 v4 w' => ∃ (x3_1 : Int) (x4_1 : Int),v3 = .int .i64 x3_1 ∧ v4 = .int .i64 x4_1 ∧ Aside0 (rotalaw07_long.l0 kq x3_1 x4_1 l0_0 l0_1 l0_2 = some r) ∧ Aside0 (kq ≤ k) ∧ Aside0 (w'.heap[gb546]? = some (.cells #[(.slice A0_0 l0_0.length c0_0),(.slice A0_1 l0_1.length c0_1),(.slice A0_2 l0_2.length c0_2)] 26 (0,0))) ∧ Aside0 (Below w.heap.size w w'))
 case atStart => exact ⟨(wrap64 ((l0_0.length : Int) + (l0_2.length : Int))),(0),(by first | rfl | (simp; done) | (simp [*]; done)),(by first | rfl | (simp; done) | (simp [*]; done)),H',⟨Nat.le_refl _⟩,⟨by (with_reducible repeat (first | refine blk_drewN ?_ _ | refine blk_drew ?_ | refine blk_alloc ?_ _)); exact BK546.out⟩,⟨by repeat (first | (with_reducible first | exact HB.out | apply below_alloc | apply pw_below_drewN | apply below_drew1 | refine below_set ?_ GE546.out) | exact HB.out)⟩⟩
 case round =>
  clear H'
  try clear c1
  try clear p2
  try clear hcz3_0
  try clear hcz3_1
  try clear hcz3_2
  try clear hfz3_0
  try clear hfz3_1
  try clear hfz3_2
  obtain ⟨x3_1,x4_1,rfl,rfl,HA,HK1,BK546,HB⟩:=hrel
  cases gk with
  | zero => exact absurd HA.out (by simp [rotalaw07_long.l0])
  | succ k1 =>
   have H:=HA.out
   clear HA
   simp only [rotalaw07_long.l0] at H
   by_cases c4 : x4_1 < (l0_2.length : Int)
   ·rw [if_pos c4] at H
    have c4b0 : decide (x4_1 < (l0_2.length : Int)) = true:=decide_eq_true c4
    clear c4
    by_cases c5 : x3_1 ≤ 262144
    ·rw [if_pos c5] at H
     have c5b0 : decide (x3_1 ≤ 262144) = true:=decide_eq_true c5
     clear c5
     by_cases c6 : 0 ≤ x4_1
     ·rw [if_pos c6] at H
      have c6b0 : decide (0 ≤ x4_1) = true:=decide_eq_true c6
      clear c6
      have H':=Aside0.mk H
      clear H
      have hcz7_0 : wr.cell? ⟨gb546,0,none⟩ = some (.slice A0_0 l0_0.length c0_0):=(blk_cell BK546.out 0).trans rfl
      have hcz7_1 : wr.cell? ⟨gb546,1,none⟩ = some (.slice A0_1 l0_1.length c0_1):=(blk_cell BK546.out 1).trans rfl
      have hcz7_2 : wr.cell? ⟨gb546,2,none⟩ = some (.slice A0_2 l0_2.length c0_2):=(blk_cell BK546.out 2).trans rfl
      have hfz7_0:=blk_frozen BK546.out 0
      have hfz7_1:=blk_frozen BK546.out 1
      have hfz7_2:=blk_frozen BK546.out 2
      have p547 : 0 ≤ (x4_1 : Int):=of_decide_eq_true (by first | (with_reducible assumption) | assumption)
      have q547 : x4_1 < (l0_2.length : Int):=of_decide_eq_true (by first | (with_reducible assumption) | assumption)
      obtain ⟨ad547,A547_0,c547_0,e547,hx547_0,hx547_1,hl547_0,hi547_0⟩:=at_T44 HR0_2.out x4_1 p547 q547
      cases e547
      replace hx547_0:=(HB.out.cell (World.block_lt_of_cell? w _ hx547_0)).trans hx547_0
      replace hx547_1:=(HB.out.cell (World.block_lt_of_cell? w _ hx547_1)).trans hx547_1
      have HR547_0:=Aside0.mk hi547_0
      have HC547_0:=Aside0.mk hl547_0
      clear hi547_0 hl547_0
      replace p547:=eq_true p547
      replace q547:=eq_true q547
      go_wp2
      go_roundg k1
      case measure => have:=HK1.out; omega
      case rel => exact ⟨(wrap64 (x3_1 + (((rd_T44 l0_2 x4_1).f0).length : Int))),(wrap64 (x4_1 + 1)),(by first | rfl | (simp; done) | (simp [*]; done)),(by first | rfl | (simp; done) | (simp [*]; done)),H',⟨by have:=HK1.out; omega⟩,⟨by (with_reducible repeat (first | refine blk_drewN ?_ _ | refine blk_drew ?_ | refine blk_alloc ?_ _)); exact BK546.out⟩,⟨by repeat (first | (with_reducible first | exact HB.out | apply below_alloc | apply pw_below_drewN | apply below_drew1 | refine below_set ?_ GE546.out) | exact HB.out)⟩⟩
     ·rw [if_neg c6] at H
      exact absurd H (by simp)
    ·rw [if_neg c5] at H
     have c5b0 : decide (x3_1 ≤ 262144) = false:=decide_eq_false c5
     clear c5
     obtain rfl:=Option.some.inj H
     have hcz8_0 : wr.cell? ⟨gb546,0,none⟩ = some (.slice A0_0 l0_0.length c0_0):=(blk_cell BK546.out 0).trans rfl
     have hcz8_1 : wr.cell? ⟨gb546,1,none⟩ = some (.slice A0_1 l0_1.length c0_1):=(blk_cell BK546.out 1).trans rfl
     have hcz8_2 : wr.cell? ⟨gb546,2,none⟩ = some (.slice A0_2 l0_2.length c0_2):=(blk_cell BK546.out 2).trans rfl
     have hfz8_0:=blk_frozen BK546.out 0
     have hfz8_1:=blk_frozen BK546.out 1
     have hfz8_2:=blk_frozen BK546.out 2
     go_wp2
     go_ret
     exact ⟨by first | rfl | (simp [errW_none,errW_some] <;> rfl) | (simp [*,errW_none,errW_some] <;> rfl),by repeat (first | (with_reducible first | exact HB.out | apply below_alloc | apply pw_below_drewN | apply below_drew1 | refine below_set ?_ GE546.out) | exact HB.out)⟩
   ·rw [if_neg c4] at H
    have c4b0 : decide (x4_1 < (l0_2.length : Int)) = false:=decide_eq_false c4
    clear c4
    obtain rfl:=Option.some.inj H
    have hcz9_0 : wr.cell? ⟨gb546,0,none⟩ = some (.slice A0_0 l0_0.length c0_0):=(blk_cell BK546.out 0).trans rfl
    have hcz9_1 : wr.cell? ⟨gb546,1,none⟩ = some (.slice A0_1 l0_1.length c0_1):=(blk_cell BK546.out 1).trans rfl
    have hcz9_2 : wr.cell? ⟨gb546,2,none⟩ = some (.slice A0_2 l0_2.length c0_2):=(blk_cell BK546.out 2).trans rfl
    have hfz9_0:=blk_frozen BK546.out 0
    have hfz9_1:=blk_frozen BK546.out 1
    have hfz9_2:=blk_frozen BK546.out 2
    go_wp2
    go_ret
    exact ⟨by first | rfl | (simp [errW_none,errW_some] <;> rfl) | (simp [*,errW_none,errW_some] <;> rfl),by repeat (first | (with_reducible first | exact HB.out | apply below_alloc | apply pw_below_drewN | apply below_drew1 | refine below_set ?_ GE546.out) | exact HB.out)⟩
end Go.Proofs.YtdbpglhdicmhhaaGreatDoor.GA
end

section
namespace Go.Proofs.YtdbpglhdicmhhaaGreatDoor.Q
open Go.RowKit Go.Lib Num Go.Proofs.YtdbpglhdicmhhaaGreatDoor.GA Go.Proofs.YtdbpglhdicmhhaaGreatDoor.Hfits Go.Proofs.YtdbpglhdicmhhaaGreatDoor.Hof
def I64 (n : Int) : Prop:=-9223372036854775808 ≤ n ∧ n ≤ 9223372036854775807
def CaseI (c : S46) : Prop:=I64 c.f1 ∧ I64 c.f2 ∧ I64 c.f3
def casesN (l : List S44) : Nat:=(l.map fun t => t.f0.length).sum
theorem casesN_mem {t : S44} : ∀ {l : List S44},t ∈ l → t.f0.length ≤ casesN l
 | x :: l,h => by
  have e : casesN (x :: l) = x.f0.length + casesN l:=by unfold casesN; rw [List.map_cons,List.sum_cons]
  rcases List.mem_cons.1 h with rfl | h
  ·omega
  ·have:=casesN_mem h; omega
theorem regL_le {n : Int} (h : I64 n) : (regL n).length ≤ 23:=by
 have:=itoa_le n h.1 h.2
 unfold regL
 simp only [List.length_append,List.length_cons,List.length_nil]; omega
theorem cases_le : ∀ (l : List S46),(∀ c ∈ l,CaseI c) → (casesL l).length ≤ 80 * l.length
 | [],_ => Nat.le_refl _
 | c :: l,h => by
  have ih:=cases_le l (fun x hx => h x (List.mem_cons_of_mem _ hx))
  obtain ⟨h1,h2,h3⟩:=h c List.mem_cons_self
  have e1:=regL_le h1
  have e2:=regL_le h2
  have e3:=regL_le h3
  have : casesL (c :: l) = caseL c ++ [10] ++ casesL l:=by unfold casesL; rw [List.flatMap_cons]
  rw [this]
  unfold caseL caseR
  cases c.f0 <;> simp only [List.flatMap_cons,List.flatMap_nil,List.length_append,List.length_cons,List.length_nil,if_true,Bool.false_eq_true,if_false] <;> omega
theorem tabs_le : ∀ (l : List S44) (i : Nat),(∀ t ∈ l,∀ c ∈ t.f0,CaseI c) → i + l.length ≤ 1099511627776 → (tabsL i l).length ≤ 60 * l.length + 80 * casesN l
 | [],i,_,_ => Nat.zero_le _
 | t :: l,i,h,hb => by
  rw [List.length_cons] at hb ⊢
  have ih:=tabs_le l (i + 1) (fun x hx => h x (List.mem_cons_of_mem _ hx)) (by omega)
  have hc:=cases_le t.f0 (h t List.mem_cons_self)
  have hi:=itoa_le (i : Int) (by omega) (by omega)
  have hs : casesN (t :: l) = t.f0.length + casesN l:=by unfold casesN; rw [List.map_cons,List.sum_cons]
  rw [tabsL,hs]
  unfold tabL
  simp only [List.length_append,List.length_cons,List.length_nil]
  have : (if t.f1 = true then ([32,100,101,102,97,117,108,116] : List UInt8) else []).length ≤ 8:=by split <;> simp
  omega
theorem dec_few {w : Int} (h0 : 0 ≤ w) (h1 : w < 4294967296) : (dOp w - 1).toNat < 58 ∧ Few5 (decV w).2.1 ∧ Few5 (decV w).2.2.1 ∧ Few5 (decV w).2.2.2.1 ∧ Few5 (dImm w):=by
 have z : Few5 0:=⟨by decide,by decide⟩
 rcases in_or (w / 16777216) with ⟨j,hj,ho⟩ | hn
 ·have h:=word_decode j hj w h0 h1 ho
  by_cases hf : fitsB (dA w) (dB w) (dC w (Hfind.rowAt j).2.1) (dM w (Hfind.rowAt j).2.1) (Hfind.rowAt j).2.1 = true
  ·rw [if_pos hf] at h
   obtain ⟨b1,b2,b3,b4,b5,b6,_,b7,b8⟩:=fits_bd hf
   have hd : decV w = ((j : Int) + 1,dA w,dB w,dC w (Hfind.rowAt j).2.1,dM w (Hfind.rowAt j).2.1,0):=by unfold decV; rw [h]; rfl
   unfold dOp dImm
   rw [hd]
   exact ⟨by show ((j : Int) + 1 - 1).toNat < 58; omega,⟨by show -100000 < dA w; omega,by show dA w < 100000; omega⟩,⟨by show -100000 < dB w; omega,by show dB w < 100000; omega⟩,⟨by show -100000 < dC w _; omega,by show dC w _ < 100000; omega⟩,⟨by show -100000 < dM w _; omega,by show dM w _ < 100000; omega⟩⟩
  ·rw [if_neg hf] at h
   have hd : decV w = (0,0,0,0,0,61):=by unfold decV; rw [h]; rfl
   unfold dOp dImm
   rw [hd]
   exact ⟨by decide,z,z,z,z⟩
 ·have hd : decV w = (0,0,0,0,0,60):=by unfold decV; rw [decode_else w h0 h1 hn]; rfl
  unfold dOp dImm
  rw [hd]
  exact ⟨by decide,z,z,z,z⟩
theorem line_le {w : Int} (h0 : 0 ≤ w) (h1 : w < 4294967296) : (lineW w).length ≤ 200:=by
 obtain ⟨hk,fa,fb,fc,fm⟩:=dec_few h0 h1
 have la:=itoa_len fa
 have lb:=itoa_len fb
 have lc:=itoa_len fc
 have lm:=itoa_len fm
 have ln:=name_short hk
 have lp:=pref_len ((((dOp w - 1).toNat : Nat) : Int) + 1)
 unfold lineW lineL
 have h3 : ∀ n,((([(decV w).2.1,(decV w).2.2.1,(decV w).2.2.2.1] : List Int).take n).flatMap regL).length ≤ 30:=fun n => by
  unfold regL
  match n with
  | 0 => simp
  | 1 => simp; omega
  | 2 => simp; omega
  | n + 3 => simp; omega
 have h4 : ∀ b,(immL b ((((dOp w - 1).toNat : Nat) : Int) + 1) (dImm w)).length ≤ 20:=fun b => by
  unfold immL
  cases b
  ·simp
  ·simp only [if_true,List.length_append,List.length_cons,List.length_nil]; omega
 rw [List.length_append,List.length_append]
 have:=h3 (if (Hfind.rowAt (dOp w - 1).toNat).2.1 = 1 ∨ (Hfind.rowAt (dOp w - 1).toNat).2.1 = 5 ∨ (Hfind.rowAt (dOp w - 1).toNat).2.1 = 6 then 1 else if (Hfind.rowAt (dOp w - 1).toNat).2.1 = 2 then 2 else if (Hfind.rowAt (dOp w - 1).toNat).2.1 = 3 then 3 else 0)
 have:=h4 (decide ((Hfind.rowAt (dOp w - 1).toNat).2.1 = 4 ∨ (Hfind.rowAt (dOp w - 1).toNat).2.1 = 5 ∨ (Hfind.rowAt (dOp w - 1).toNat).2.1 = 6))
 omega
theorem code_le (tg : Int → Bool) : ∀ (r : List Int) (at_ : Int),(∀ w ∈ r,0 ≤ w ∧ w < 4294967296) → 0 ≤ at_ → at_ + r.length ≤ 1099511627776 → (codeL tg at_ r).length ≤ 240 * r.length
 | [],_,_,_,_ => Nat.le_refl _
 | w :: r,at_,h,h0,hb => by
  rw [List.length_cons] at hb ⊢
  have ih:=code_le tg r (at_ + 1) (fun x hx => h x (List.mem_cons_of_mem _ hx)) (by omega) (by omega)
  have hl:=line_le (h w List.mem_cons_self).1 (h w List.mem_cons_self).2
  have hi:=itoa_le at_ (by omega) (by omega)
  rw [codeL]
  have : (if tg at_ = true then [76] ++ itoa at_ ++ [58,10] else []).length ≤ 24:=by
   split
   ·simp only [List.length_append,List.length_cons,List.length_nil]; omega
   ·simp
  simp only [List.length_append,List.length_cons,List.length_nil] at this ⊢
  omega
theorem funcs_le (tg : Int → Bool) (l0 : List Int) (hw : ∀ x ∈ l0,0 ≤ x ∧ x < 4294967296) (hl : l0.length ≤ 549755813888) : ∀ (fs : List S41) (i : Nat) (at_ : Int),partsFrom l0.length at_ fs = true → 0 ≤ at_ → i ≤ 549755813888 → at_ ≤ l0.length → i ≤ at_ → ((funcsL tg l0 i fs).length : Int) ≤ 300 * (l0.length - at_)
 | [],i,at_,_,_,_,h,_ => by show (0 : Int) ≤ _; omega
 | f :: fs,i,at_,hp,h0,hi,_,hia => by
  rw [partsFrom] at hp
  simp only [Bool.and_eq_true,decide_eq_true_eq] at hp
  obtain ⟨⟨⟨p0,p1⟩,p2⟩,p3⟩:=hp
  have ih:=funcs_le tg l0 hw hl fs (i + 1) f.f1 p3 (by omega) (by omega) p2 (by omega)
  have hwl : (wordsOf l0 f).length = (f.f1 - f.f0).toNat:=words_len (by omega) (by omega) p2
  have hc:=code_le tg (wordsOf l0 f) f.f0 (fun x hx => hw x (by unfold wordsOf at hx; exact List.mem_of_mem_drop (List.mem_of_mem_take hx))) (by omega) (by rw [hwl]; omega)
  have hit:=itoa_le (i : Int) (by omega) (by omega)
  rw [funcsL]
  unfold funcL
  simp only [List.length_append,List.length_cons,List.length_nil]
  rw [hwl] at hc
  omega
theorem text_le {l0 : List Int} {l1 : List S41} {l2 : List S44} (hw : ∀ x ∈ l0,0 ≤ x ∧ x < 4294967296) (hc : ∀ t ∈ l2,∀ c ∈ t.f0,CaseI c) (hn : l0.length + l2.length + casesN l2 ≤ 2147483648) :
  (tabsL 0 l2).length ≤ 1099511627776 ∧ (partsV l0 l1 = true → ∀ tg,(tabsL 0 l2 ++ funcsL tg l0 0 l1).length ≤ 1099511627776):=by
 have h1:=tabs_le l2 0 hc (by omega)
 refine ⟨by omega,fun hp tg => ?_⟩
 unfold partsV at hp
 rw [Bool.and_eq_true] at hp
 have h2:=funcs_le tg l0 hw (by omega) l1 0 0 hp.1 (Int.le_refl _) (by omega) (by omega) (by omega)
 rw [List.length_append]
 omega
theorem long_at (l0 : List Int) (l1 : List S41) (l2 : List S44) (h2 : l2.length ≤ 4398046511104) (h3 : ∀ t ∈ l2,t.f0.length ≤ 4398046511104) : ∀ (r : List S44) (i : Nat) (x : Int),l2.drop i = r → i ≤ l2.length → 0 ≤ x → x < 70368744177664 → ∃ b,rotalaw07_long.l0 (r.length + 1) x (i : Int) l0 l1 l2 = some b ∧ (b = false → x + (casesN r : Int) ≤ 262144)
 | [],i,x,hd,hi,h0,h1 => by
  have : l2.length ≤ i:=by
   have:=congrArg List.length hd; rw [List.length_drop,List.length_nil] at this; omega
  rw [List.length_nil,rotalaw07_long.l0,if_neg (by omega)]
  refine ⟨_,rfl,fun hb => ?_⟩
  have:=of_decide_eq_false hb
  show x + ((0 : Nat) : Int) ≤ _
  omega
 | t :: r,i,x,hd,hi,h0,h1 => by
  have hil : i < l2.length:=by
   have:=congrArg List.length hd; rw [List.length_drop,List.length_cons] at this; omega
  have ht : l2[i]? = some t:=by
   have:=congrArg (fun l => l[0]?) hd
   simpa using this
  have hd2 : l2.drop (i + 1) = r:=by
   have:=congrArg List.tail hd
   simpa using this
  have hrd : rd_T44 l2 (i : Int) = t:=by unfold rd_T44; rw [Int.toNat_natCast,List.getD_eq_getElem?_getD,ht]; rfl
  have htl:=h3 t (List.mem_of_getElem? ht)
  rw [List.length_cons,rotalaw07_long.l0,if_pos (by omega)]
  by_cases hx : x ≤ 262144
  ·rw [if_pos hx,if_pos (by omega),hrd]
   have e1 : wrap64 (x + (t.f0.length : Int)) = x + (t.f0.length : Int):=by unfold wrap64; omega
   have e2 : wrap64 ((i : Int) + 1) = ((i + 1 : Nat) : Int):=by unfold wrap64; omega
   rw [e1,e2]
   obtain ⟨b,hb,hf⟩:=long_at l0 l1 l2 h2 h3 r (i + 1) (x + t.f0.length) hd2 hil (by omega) (by omega)
   refine ⟨b,hb,fun h => ?_⟩
   have:=hf h
   have hs : casesN (t :: r) = t.f0.length + casesN r:=by unfold casesN; rw [List.map_cons,List.sum_cons]
   rw [hs]; omega
  ·rw [if_neg hx]
   refine ⟨_,rfl,fun hb => ?_⟩
   have:=of_decide_eq_false hb
   omega
def NotLong (b : Bool) (n : Nat) : Prop:=b = false → n ≤ 262144
theorem long_all {l0 : List Int} {l1 : List S41} {l2 : List S44} (h0 : l0.length ≤ 35184372088832) (h2 : l2.length ≤ 4398046511104) (h3 : ∀ t ∈ l2,t.f0.length ≤ 4398046511104) : ∃ k b,rotalaw07_long.f k l0 l1 l2 = some b ∧ NotLong b (l0.length + l2.length + casesN l2):=by
 obtain ⟨b,hb,hf⟩:=long_at l0 l1 l2 h2 h3 l2 0 ((l0.length : Int) + (l2.length : Int)) rfl (Nat.zero_le _) (by omega) (by omega)
 refine ⟨l2.length + 1,b,?_,fun h => by have:=hf h; omega⟩
 unfold rotalaw07_long.f
 rw [show wrap64 ((l0.length : Int) + (l2.length : Int)) = (l0.length : Int) + (l2.length : Int) by unfold wrap64; omega]
 exact hb
end Go.Proofs.YtdbpglhdicmhhaaGreatDoor.Q
end

section
namespace Go.Proofs.YtdbpglhdicmhhaaGreatDoor.GA
open Go.RowKit Go.Proofs.YtdbpglhdicmhhaaGreatDoorW.PrintWords Go.Proofs.YtdbpglhdicmhhaaGreatDoorW.PrintLast Go.Proofs.YtdbpglhdicmhhaaGreatDoorW.PrintMore
abbrev bx : ByteArray:=⟨#[101,120,105,116]⟩
abbrev be : ByteArray:=⟨#[]⟩
set_option maxHeartbeats 8000000 in
set_option maxRecDepth 100000 in
theorem check_exit (w : World) : Calls Tryz.prog 79 #[.agg #[.int .i64 24,.int .i64 0,.int .i64 0,.int .i64 0,.int .i64 0]] w fun e w' => e = .returned (.int .i64 0) ∧ Below w.heap.size w w':=by
 have hu70:=Tryz.underlying70
 have hu133:=Tryz.underlying133
 have HB:=Aside0.mk (Below.refl w.heap.size w)
 have A2:=Aside0.mk (show rotaref06_table.f 24 = some (bx,0,1,be,be,true) from rfl)
 have A4:=Aside0.mk (show rotaref06_Has.f 0 = some (false,false,false,0,0) from rfl)
 have A5:=Aside0.mk (show rotaref06_fits.f 0 false = some true from rfl)
 have A7:=A5
 have A9:=A5
 go_enter Tryz.func79,Tryz.ntmps79
 go_wp2_with (first | ((with_reducible refine gate_dst (N:=1) rfl ?_); refine box_event ?hg (N:=1) ?hd (cs:=#[.int .i64 24,.int .i64 0,.int .i64 0,.int .i64 0,.int .i64 0]) (t:=70) ?hr ?_; (case hd => rfl); (case hg => rfl); (case hr => first | (go_simp; done) | (go_simp; rfl)); intro gb367 hg w27 hbox hb; have n0_:=Aside0.mk (below_step (by repeat (first | (with_reducible first | exact HB.out | apply below_alloc | apply pw_below_drewN | apply below_drew1) | exact HB.out)) hb); have n1_:=Aside0.mk (hbox); have n2_:=Aside0.mk ((by rw [hg]; exact (below_size (by repeat (first | (with_reducible first | exact HB.out | apply below_alloc | apply pw_below_drewN | apply below_drew1) | exact HB.out))) : w.heap.size ≤ gb367)); have n3_:=Aside0.mk ((by rw [hg]; exact (below_size (by repeat (first | (with_reducible first | exact HB.out | apply below_alloc | apply pw_below_drewN | apply below_drew1) | exact HB.out))) : w.heap.size ≤ gb367)); clear HB; have HB:=n0_; have BK367:=n1_; have GW367:=n2_; have GE367:=n3_; clear n0_ n1_ n2_ n3_; clear hb hbox hg; have hcz28_0 : w27.cell? ⟨gb367,0,none⟩ = some (.int .i64 24):=(blk_cell BK367.out 0).trans rfl; have hcz28_1 : w27.cell? ⟨gb367,1,none⟩ = some (.int .i64 0):=(blk_cell BK367.out 1).trans rfl; have hcz28_2 : w27.cell? ⟨gb367,2,none⟩ = some (.int .i64 0):=(blk_cell BK367.out 2).trans rfl; have hcz28_3 : w27.cell? ⟨gb367,3,none⟩ = some (.int .i64 0):=(blk_cell BK367.out 3).trans rfl; have hcz28_4 : w27.cell? ⟨gb367,4,none⟩ = some (.int .i64 0):=(blk_cell BK367.out 4).trans rfl; have hfz28_0:=blk_frozen BK367.out 0; have hfz28_1:=blk_frozen BK367.out 1; have hfz28_2:=blk_frozen BK367.out 2; have hfz28_3:=blk_frozen BK367.out 3; have hfz28_4:=blk_frozen BK367.out 4) | ((with_reducible refine gate_callee (f:=83) rfl ?_); refine goesL_ (some 13) rfl rfl Tryz.func83 (by kernel_rfl) rfl #[.int .i64 24] rfl (by (try simp only [List.map_toArray,List.map_cons,List.map_nil]); first | done | rfl | (simp only [List.length_drop,List.length_take]; rfl)) ?_; (with_reducible refine (rotaref06_table.calls 24 bx 0 1 be be true _ A2.out).mono ?_); rintro e w29 ⟨rfl,hb⟩; refine ⟨_,rfl,?_⟩; have n0_:=Aside0.mk (blk_below (g:=gb367) (o:=.cells #[.int .i64 24,.int .i64 0,.int .i64 0,.int .i64 0,.int .i64 0] 70 (0,0)) (by (with_reducible repeat (first | refine blk_drewN ?_ _ | refine blk_drew ?_ | refine blk_alloc ?_ _)); exact BK367.out) hb); have n1_:=Aside0.mk (below_step (by repeat (first | (with_reducible first | exact HB.out | apply below_alloc | apply pw_below_drewN | apply below_drew1 | refine below_set ?_ GE367.out) | exact HB.out)) hb); clear BK367; clear HB; have BK367:=n0_; have HB:=n1_; clear n0_ n1_; (try clear hb); (try clear hb2); (try clear hk); (try clear hi)) | ((with_reducible refine gate_dst (N:=3) rfl ?_); refine box_event ?hg (N:=3) ?hd (cs:=#[.string (⟨#[]⟩ : ByteArray),.int .i64 0,.int .i64 0,.string (⟨#[]⟩ : ByteArray),.string (⟨#[]⟩ : ByteArray)]) (t:=133) ?hr ?_; (case hd => rfl); (case hg => rfl); (case hr => first | (go_simp; done) | (go_simp; rfl)); intro gb374 hg w30 hbox hb; have n0_:=Aside0.mk (blk_below (g:=gb367) (o:=.cells #[.int .i64 24,.int .i64 0,.int .i64 0,.int .i64 0,.int .i64 0] 70 (0,0)) (by (with_reducible repeat (first | refine blk_drewN ?_ _ | refine blk_drew ?_ | refine blk_alloc ?_ _)); exact BK367.out) hb); have n1_:=Aside0.mk (below_step (by repeat (first | (with_reducible first | exact HB.out | apply below_alloc | apply pw_below_drewN | apply below_drew1 | refine below_set ?_ GE367.out) | exact HB.out)) hb); have n2_:=Aside0.mk (hbox); have n3_:=Aside0.mk ((by rw [hg]; exact (below_size (by repeat (first | (with_reducible first | exact HB.out | apply below_alloc | apply pw_below_drewN | apply below_drew1 | refine below_set ?_ GE367.out) | exact HB.out))) : w.heap.size ≤ gb374)); have n4_:=Aside0.mk ((by rw [hg]; exact (below_size (by repeat (first | (with_reducible first | exact HB.out | apply below_alloc | apply pw_below_drewN | apply below_drew1 | refine below_set ?_ GE367.out) | exact HB.out))) : w.heap.size ≤ gb374)); have n5_:=Aside0.mk ((by rw [hg]; exact Nat.ne_of_lt (blk_lt (g:=gb367) (o:=.cells #[.int .i64 24,.int .i64 0,.int .i64 0,.int .i64 0,.int .i64 0] 70 (0,0)) (by (with_reducible repeat (first | refine blk_drewN ?_ _ | refine blk_drew ?_ | refine blk_alloc ?_ _)); exact BK367.out)) : gb367 ≠ gb374)); have n6_:=Aside0.mk ((by rw [hg]; exact Nat.ne_of_gt (blk_lt (g:=gb367) (o:=.cells #[.int .i64 24,.int .i64 0,.int .i64 0,.int .i64 0,.int .i64 0] 70 (0,0)) (by (with_reducible repeat (first | refine blk_drewN ?_ _ | refine blk_drew ?_ | refine blk_alloc ?_ _)); exact BK367.out)) : gb374 ≠ gb367)); clear BK367; clear HB; have BK367:=n0_; have HB:=n1_; have BK374:=n2_; have GW374:=n3_; have GE374:=n4_; have NB367_374:=n5_; have NB374_367:=n6_; clear n0_ n1_ n2_ n3_ n4_ n5_ n6_; clear hb hbox hg; have hnb31:=NB374_367.out; have hnc31:=NB367_374.out; have hcz32_0 : w30.cell? ⟨gb374,0,none⟩ = some (.string (⟨#[]⟩ : ByteArray)):=(blk_cell BK374.out 0).trans rfl; have hcz32_1 : w30.cell? ⟨gb374,1,none⟩ = some (.int .i64 0):=(blk_cell BK374.out 1).trans rfl; have hcz32_2 : w30.cell? ⟨gb374,2,none⟩ = some (.int .i64 0):=(blk_cell BK374.out 2).trans rfl; have hcz32_3 : w30.cell? ⟨gb374,3,none⟩ = some (.string (⟨#[]⟩ : ByteArray)):=(blk_cell BK374.out 3).trans rfl; have hcz32_4 : w30.cell? ⟨gb374,4,none⟩ = some (.string (⟨#[]⟩ : ByteArray)):=(blk_cell BK374.out 4).trans rfl; have hfz32_0:=blk_frozen BK374.out 0; have hfz32_1:=blk_frozen BK374.out 1; have hfz32_2:=blk_frozen BK374.out 2; have hfz32_3:=blk_frozen BK374.out 3; have hfz32_4:=blk_frozen BK374.out 4) | ((with_reducible refine gate_callee (f:=43) rfl ?_); refine goesL_ (some 21) rfl rfl Tryz.func43 (by kernel_rfl) rfl #[.int .i64 0] rfl (by (try simp only [List.map_toArray,List.map_cons,List.map_nil]); first | done | rfl | (simp only [List.length_drop,List.length_take]; rfl)) ?_; (with_reducible refine (rotaref06_Has.calls 0 false false false 0 0 _ A4.out).mono ?_); rintro e w' ⟨rfl,⟨nd,rfl⟩⟩; refine ⟨_,rfl,?_⟩; have hcz33_0 : w30.cell? ⟨gb367,0,none⟩ = some (.int .i64 24):=(blk_cell BK367.out 0).trans rfl; have hcz33_1 : w30.cell? ⟨gb367,1,none⟩ = some (.int .i64 0):=(blk_cell BK367.out 1).trans rfl; have hcz33_2 : w30.cell? ⟨gb367,2,none⟩ = some (.int .i64 0):=(blk_cell BK367.out 2).trans rfl; have hcz33_3 : w30.cell? ⟨gb367,3,none⟩ = some (.int .i64 0):=(blk_cell BK367.out 3).trans rfl; have hcz33_4 : w30.cell? ⟨gb367,4,none⟩ = some (.int .i64 0):=(blk_cell BK367.out 4).trans rfl; have hfz33_0:=blk_frozen BK367.out 0; have hfz33_1:=blk_frozen BK367.out 1; have hfz33_2:=blk_frozen BK367.out 2; have hfz33_3:=blk_frozen BK367.out 3; have hfz33_4:=blk_frozen BK367.out 4) | ((with_reducible refine gate_callee (f:=84) rfl ?_); refine goesL_ (some 30) rfl rfl Tryz.func84 (by kernel_rfl) rfl #[.int .i64 0,.bool false] rfl (by (try simp only [List.map_toArray,List.map_cons,List.map_nil]); first | done | rfl | (simp only [List.length_drop,List.length_take]; rfl)) ?_; (with_reducible refine (rotaref06_fits.calls 0 false true _ A5.out).mono ?_); rintro e w' ⟨rfl,⟨nd,rfl⟩⟩; refine ⟨_,rfl,?_⟩) | (go_at_call 84; (with_reducible refine (rotaref06_fits.calls 0 false true _ A7.out).mono ?_); rintro e w' ⟨rfl,⟨nd,rfl⟩⟩) | (go_at_call 84; (with_reducible refine (rotaref06_fits.calls 0 false true _ A9.out).mono ?_); rintro e w' ⟨rfl,⟨nd,rfl⟩⟩))
 go_ret
 exact ⟨by first | rfl | (simp [errW_none,errW_some] <;> rfl) | (simp [*,errW_none,errW_some] <;> rfl),by repeat (first | (with_reducible first | exact HB.out | apply below_alloc | apply pw_below_drewN | apply below_drew1 | refine below_set ?_ GE367.out | refine below_set ?_ GE374.out) | exact HB.out)⟩
set_option maxHeartbeats 8000000 in
set_option maxRecDepth 100000 in
theorem encode_exit (w : World) : Calls Tryz.prog 33 #[.agg #[.int .i64 24,.int .i64 0,.int .i64 0,.int .i64 0,.int .i64 0]] w fun e w' => e = .returned (.tuple #[.int .u32 402653184,.int .i64 0]) ∧ Below w.heap.size w w':=by
 have hu70:=Tryz.underlying70
 have HB:=Aside0.mk (Below.refl w.heap.size w)
 have HC:=Aside0.mk check_exit
 go_enter Tryz.func33,Tryz.ntmps33
 go_wp2_with (first | ((with_reducible refine gate_dst (N:=1) rfl ?_); refine box_event ?hg (N:=1) ?hd (cs:=#[.int .i64 24,.int .i64 0,.int .i64 0,.int .i64 0,.int .i64 0]) (t:=70) ?hr ?_; (case hd => rfl); (case hg => rfl); (case hr => first | (go_simp; done) | (go_simp; rfl)); intro gb383 hg w9 hbox hb; have n0_:=Aside0.mk (below_step (by repeat (first | (with_reducible first | exact HB.out | apply below_alloc | apply pw_below_drewN | apply below_drew1) | exact HB.out)) hb); have n1_:=Aside0.mk (hbox); have n2_:=Aside0.mk ((by rw [hg]; exact (below_size (by repeat (first | (with_reducible first | exact HB.out | apply below_alloc | apply pw_below_drewN | apply below_drew1) | exact HB.out))) : w.heap.size ≤ gb383)); have n3_:=Aside0.mk ((by rw [hg]; exact (below_size (by repeat (first | (with_reducible first | exact HB.out | apply below_alloc | apply pw_below_drewN | apply below_drew1) | exact HB.out))) : w.heap.size ≤ gb383)); clear HB; have HB:=n0_; have BK383:=n1_; have GW383:=n2_; have GE383:=n3_; clear n0_ n1_ n2_ n3_; clear hb hbox hg; have hcz10_0 : w9.cell? ⟨gb383,0,none⟩ = some (.int .i64 24):=(blk_cell BK383.out 0).trans rfl; have hcz10_1 : w9.cell? ⟨gb383,1,none⟩ = some (.int .i64 0):=(blk_cell BK383.out 1).trans rfl; have hcz10_2 : w9.cell? ⟨gb383,2,none⟩ = some (.int .i64 0):=(blk_cell BK383.out 2).trans rfl; have hcz10_3 : w9.cell? ⟨gb383,3,none⟩ = some (.int .i64 0):=(blk_cell BK383.out 3).trans rfl; have hcz10_4 : w9.cell? ⟨gb383,4,none⟩ = some (.int .i64 0):=(blk_cell BK383.out 4).trans rfl; have hfz10_0:=blk_frozen BK383.out 0; have hfz10_1:=blk_frozen BK383.out 1; have hfz10_2:=blk_frozen BK383.out 2; have hfz10_3:=blk_frozen BK383.out 3; have hfz10_4:=blk_frozen BK383.out 4) | ((with_reducible refine gate_callee (f:=79) rfl ?_); refine goesL_ (some 7) rfl rfl Tryz.func79 (by kernel_rfl) rfl #[.agg #[.int .i64 24,.int .i64 0,.int .i64 0,.int .i64 0,.int .i64 0]] rfl (by (try simp only [List.map_toArray,List.map_cons,List.map_nil]); first | done | rfl | (simp only [List.length_drop,List.length_take]; rfl)) ?_; (with_reducible refine (HC.out _).mono ?_); rintro e w11 ⟨rfl,hb⟩; refine ⟨_,rfl,?_⟩; have n0_:=Aside0.mk (blk_below (g:=gb383) (o:=.cells #[.int .i64 24,.int .i64 0,.int .i64 0,.int .i64 0,.int .i64 0] 70 (0,0)) (by (with_reducible repeat (first | refine blk_drewN ?_ _ | refine blk_drew ?_ | refine blk_alloc ?_ _)); exact BK383.out) hb); have n1_:=Aside0.mk (below_step (by repeat (first | (with_reducible first | exact HB.out | apply below_alloc | apply pw_below_drewN | apply below_drew1 | refine below_set ?_ GE383.out) | exact HB.out)) hb); clear BK383; clear HB; have BK383:=n0_; have HB:=n1_; clear n0_ n1_; (try clear hb); (try clear hb2); (try clear hk); (try clear hi); have hcz12_0 : w11.cell? ⟨gb383,0,none⟩ = some (.int .i64 24):=(blk_cell BK383.out 0).trans rfl; have hcz12_1 : w11.cell? ⟨gb383,1,none⟩ = some (.int .i64 0):=(blk_cell BK383.out 1).trans rfl; have hcz12_2 : w11.cell? ⟨gb383,2,none⟩ = some (.int .i64 0):=(blk_cell BK383.out 2).trans rfl; have hcz12_3 : w11.cell? ⟨gb383,3,none⟩ = some (.int .i64 0):=(blk_cell BK383.out 3).trans rfl; have hcz12_4 : w11.cell? ⟨gb383,4,none⟩ = some (.int .i64 0):=(blk_cell BK383.out 4).trans rfl; have hfz12_0:=blk_frozen BK383.out 0; have hfz12_1:=blk_frozen BK383.out 1; have hfz12_2:=blk_frozen BK383.out 2; have hfz12_3:=blk_frozen BK383.out 3; have hfz12_4:=blk_frozen BK383.out 4))
 go_ret2
 exact ⟨by first | rfl | (simp [errW_none,errW_some] <;> rfl) | (simp [*,errW_none,errW_some] <;> rfl),by repeat (first | (with_reducible first | exact HB.out | apply below_alloc | apply pw_below_drewN | apply below_drew1 | refine below_set ?_ GE383.out) | exact HB.out)⟩
end Go.Proofs.YtdbpglhdicmhhaaGreatDoor.GA
end
