import Derived.Test.YtdbpglhdicmhhaaGreatDoorMPr40
import Derived.Test.YtdbpglhdicmhhaaGreatDoorMPr37
import Derived.Test.YtdbpglhdicmhhaaGreatDoorMPr19
set_option maxHeartbeats 8000000
set_option maxRecDepth 100000
set_option linter.unusedVariables false
set_option linter.unusedSimpArgs false
section
namespace Go.Proofs.YtdbpglhdicmhhaaGreatDoor.Q
open Go.RowKit Go.Lib Go.Proofs.YtdbpglhdicmhhaaGreatDoor.GA
theorem XJ {l0 : List Int} {l1 : List jw} {l2 : List qB} (hwd : ∀ x ∈ l0,0 ≤ x ∧ x < 4294967296) {i : Nat} {w : Int} (hw : l0[i]? = some w) (he : rV w = 0) : aH.f 20 l0 l1 l2 (i : Int) = some (bs (sZ w),0):=by
 have hm:=hwd w (List.mem_of_getElem? hw)
 obtain ⟨r,h1,h2⟩:=QW (l1:=l1) (l2:=l2) hwd (i : Int)
 rw [Po hw hm.1 hm.2 he] at h1
 rw [h2,← h1]
def sW (T s rest : List UInt8) : Prop:=s ++ rest = T ∨ (262144 < s.length ∧ s.length + rest.length ≤ T.length)
theorem sW.len {T s rest : List UInt8} (h : sW T s rest) : s.length + rest.length ≤ T.length:=by
 rcases h with h | h
 ·rw [← h,List.length_append]; exact Nat.le_refl _
 ·exact h.2
theorem sW.step {T s a rest : List UInt8} (h : sW T s (a ++ rest)) : sW T (s ++ a) rest:=by
 rcases h with h | h
 ·exact .inl (by rw [List.append_assoc]; exact h)
 ·refine .inr ⟨?_,?_⟩ <;> simp only [List.length_append] at h ⊢ <;> omega
theorem sW.over {T s a rest : List UInt8} (h : sW T s (a ++ rest)) (hs : 262144 < s.length) : sW T s rest :=
 .inr ⟨hs,by have:=h.len; rw [List.length_append] at this; omega⟩
theorem SX {l : List Int} {i : Nat} {x : Int} (h : l[i]? = some x) (h0 : errs (l.take i) = 0) : errs (l.take (i + 1)) = rV x:=by
 rw [List.take_add_one,h,En,if_pos h0]
 show errs [x] = _
 rw [errs,errs]
 split <;> simp [*]
theorem V5 {l : List Int} {i : Nat} {x : Int} (h : l[i]? = some x) (h0 : errs (l.take i) = 0) (hx : rV x ≠ 0) : errs l = rV x:=by
 have e:=En (l.take (i + 1)) (l.drop (i + 1))
 rw [List.take_append_drop,SX h h0,if_neg hx] at e
 exact e
theorem UD {tg : Int → Bool} {at_ : Int} {l : List Int} {i : Nat} {x : Int} (h : l.drop i = x :: l.drop (i + 1)) : sH tg at_ (l.drop i) = (if tg at_ then [76] ++ itoa at_ ++ [58,10] else []) ++ (sZ x ++ [10]) ++ sH tg (at_ + 1) (l.drop (i + 1)):=by rw [h,sH]
end Go.Proofs.YtdbpglhdicmhhaaGreatDoor.Q
namespace Go.Proofs.YtdbpglhdicmhhaaGreatDoor.qp
open Go.RowKit Go.Shelf Go.Proofs.YtdbpglhdicmhhaaGreatDoorW.aI Go.Proofs.YtdbpglhdicmhhaaGreatDoorW.aX Go.Proofs.YtdbpglhdicmhhaaGreatDoorW.aZ iM GA
theorem vU {o : Oper} {a : Act} {x y : Operand} {s1 s2 t : ByteArray} (ht : t = s1 ++ s2) (h : s1.size + s2.size ≤ 9223372036854775807) (ho : o.op = .binOp .add 9 x y 9) (hx : a.eval x = .string s1) (hy : a.eval y = .string s2) (w : World) : (execOp a.eval o).run Tryz.prog w = .ok (.value (.string t)) w:=by
 subst ht
 have ov : (9223372036854775807 < s1.size + s2.size) = False:=eq_false (by omega)
 unfold execOp
 simp only [ho,hx,hy]
 go_simp
theorem Js (A0 : Option Addr) (c0 : Nat) (l0 : List Int) (A1 : Option Addr) (c1 : Nat) (l1 : List jw) (A2 : Option Addr) (c2 : Nat) (l2 : List qB) (w : World) (hP : PC w A0 c0 l0 A1 c1 l1 A2 c2 l2)
  (hwd : ∀ x ∈ l0,0 ≤ x ∧ x < 4294967296) (hn0 : l0.length ≤ 1099511627776) (hn1 : l1.length ≤ 8796093022208) (hn2 : l2.length ≤ 1099511627776) (hn3 : ∀ t ∈ l2,t.f0.length ≤ 1099511627776)
  (hb2 : (Q.ig 0 l2).length ≤ 1099511627776) (hb : Q.gX l0 l1 = true → ∀ tg,(Q.ig 0 l2 ++ Q.gq tg l0 0 l1).length ≤ 1099511627776) :
  Calls Tryz.prog 18 #[.agg #[.slice A0 l0.length c0,.slice A1 l1.length c1,.slice A2 l2.length c2]] w fun e w' => e = .returned (.tuple #[.string (Q.bs (Q.wF l0 l1 l2).1),.int .i64 (Q.wF l0 l1 l2).2]) ∧ Below w.heap.size w w':=by
 have HP:=Lib.hid hP
 have HW:=Lib.hid hwd
 have Vf:=Lib.hid hn0
 have Yr:=Lib.hid hn1
 have Qp:=Lib.hid hn2
 have HN3:=Lib.hid hn3
 have HB2:=Lib.hid hb2
 have HB:=Lib.hid hb
 have M0:=ah.mk (jo.start w)
 have HF0:=Lib.hid (show Fits l0 l1 l2 from ⟨by omega,by omega,by omega,fun t ht => by have:=hn3 t ht; omega⟩)
 clear hP hwd hn0 hn1 hn2 hn3 hb2 hb
 go_enter Tryz.func18,Tryz.ntmps18
 go_wp2_with (first
  | ((with_reducible refine bI (N:=1) rfl ?_); refine yB M0 1 #[.slice A0 l0.length c0,.slice A1 l1.length c1,.slice A2 l2.length c2] 26 ?_; clear M0; intro g1 w1 M1; have p0:=M1.out.mem.mem.cell 0 rfl 0; have p1:=M1.out.mem.mem.cell 0 rfl 1; have p2:=M1.out.mem.mem.cell 0 rfl 2)
  | fail)
 refine (fP A0 c0 l0 A1 c1 l1 A2 c2 l2 w1 (HP.out.below M1.out.below) HW.out HF0.out).mono ?_
 rintro e w2 ⟨rfl,hbw⟩
 have M2:=ah.mk (M1.out.call hbw)
 clear M1 hbw p0 p1 p2
 cases hft : Q.jA l0 l1 l2 with
 | false =>
  have HR:=Lib.hid (Q.U2 hft)
  clear hft
  go_wp2
  go_ret2
  rw [HR.out]
  exact ⟨rfl,M2.out.below⟩
 | true =>
 have HR:=Lib.hid (Q.XE hft)
 have HFT:=Lib.hid (show (Q.gX l0 l1 = true ∧ Q.qX l2 = true) ∧ l1.all (Q.xq l0 l1 l2.length) = true by
  have h:=hft
  unfold Q.jA at h
  simpa only [Bool.and_eq_true] using h)
 clear hft
 have p0:=M2.out.mem.mem.cell 0 rfl 0
 go_wp2_with fail
 go_loopg [4] l0.length (fun g v4 wr => ∃ (i : Nat),i + g = l0.length ∧ v4 = .int .i64 i ∧ jo w wr [(g1,#[.slice A0 l0.length c0,.slice A1 l1.length c1,.slice A2 l2.length c2],26)] (.slice none 0 0) [] ∧ Q.errs (l0.take i) = 0)
 case atStart => exact ⟨0,Nat.zero_add _,rfl,M2.out,rfl⟩
 case round =>
  clear M2 p0
  rename World => w4
  obtain ⟨i,hi,rfl,M4,he0⟩:=hrel
  have M5:=ah.mk M4
  have HE0:=Lib.hid he0
  clear M4 he0
  have p0:=M5.out.mem.mem.cell 0 rfl 0
  by_cases hil : i < l0.length
  ·obtain ⟨Ep,rfl⟩ : ∃ g,gk = g + 1:=⟨gk - 1,by omega⟩
   have HG:=Lib.hid hi
   obtain ⟨x,hx⟩ : ∃ x,l0[i]? = some x:=⟨_,List.getElem?_eq_getElem hil⟩
   have HX:=Lib.hid hx
   have Om:=Lib.hid (HW.out x (List.mem_of_getElem? hx))
   have hrx : rd l0 (i : Int) = x:=by unfold rd; rw [Int.toNat_natCast,List.getD_eq_getElem?_getD,hx]; rfl
   have qi : (i : Int) < (l0.length : Int):=by omega
   have W4:=Lib.hid (show wrap64 ((i : Int) + 1) = ((i + 1 : Nat) : Int) by rw [Int.natCast_add]; exact IntWalk.wrap64_in _ (by have:=Vf.out; omega))
   obtain ⟨ad,rfl,hcell⟩:=Kd.tN HP.out.g0 (i : Int) (by omega) qi
   rw [Int.toNat_natCast,hrx] at hcell
   have yc:=(M5.out.below.cell (World.block_lt_of_cell? _ _ hcell)).trans hcell
   obtain ⟨o,a1,a2,a3,m,e,hdec⟩ : ∃ o a1 a2 a3 m e,Q.su x = (o,a1,a2,a3,m,e):=⟨_,_,_,_,_,_,rfl⟩
   have HD:=Lib.hid (show dJ.f x = some (o,a1,a2,a3,m,e) by rw [← hdec]; exact Q.NP Om.out.1 Om.out.2)
   have Dt:=Lib.hid (show Q.rV x = e by unfold Q.rV; rw [hdec])
   clear hx hrx hil hi hcell hdec
   go_wp2_with fail
   refine (GA.dJ.calls x o a1 a2 a3 m e _ HD.out).mono ?_
   rintro e' W6 ⟨rfl,hb6⟩
   have M6:=ah.mk (M5.out.call hb6)
   clear M5 hb6 p0 yc
   by_cases he : e = 0
   ·subst he
    go_wp2_with (first
     | ((with_reducible refine bI (N:=5) rfl ?_); refine yB M6 5 #[.int .i64 0,.int .i64 0,.int .i64 0,.int .i64 0,.int .i64 0] 70 ?_; clear M6; intro g5 wb M7)
     | ((with_reducible refine aU (t:=70) (p:=5) rfl ?_); refine yR M7 70 5 1 #[.int .i64 o,.int .i64 a1,.int .i64 a2,.int .i64 a3,.int .i64 m] ?_; clear M7; intro wc M8)
     | fail)
    go_roundg Ep
    case measure => omega
    case rel => exact ⟨i + 1,by have:=HG.out; omega,by rw [W4.out],M8.out.forget 1,by rw [Q.SX HX.out HE0.out]; exact Dt.out⟩
   ·have HRE:=Lib.hid (show Q.wF l0 l1 l2 = ([],e) by
     have h:=Q.V5 HX.out HE0.out (by rw [Dt.out]; exact he)
     rw [HR.out,if_pos (by rw [h,Dt.out]; exact he),h,Dt.out])
    go_wp2_with (first
     | ((with_reducible refine bI (N:=5) rfl ?_); refine yB M6 5 #[.int .i64 0,.int .i64 0,.int .i64 0,.int .i64 0,.int .i64 0] 70 ?_; clear M6; intro g5 wb M7)
     | ((with_reducible refine aU (t:=70) (p:=5) rfl ?_); refine yR M7 70 5 1 #[.int .i64 o,.int .i64 a1,.int .i64 a2,.int .i64 a3,.int .i64 m] ?_; clear M7; intro wc M8)
     | fail)
    go_ret2
    rw [HRE.out]
    exact ⟨rfl,M8.out.below⟩
  ·obtain rfl : i = l0.length:=by omega
   have HE:=Lib.hid (show Q.errs l0 = 0 by have h:=HE0.out; rwa [List.take_length] at h)
   have HRX:=Lib.hid (show Q.wF l0 l1 l2 = if 262144 < (Q.ig 0 l2 ++ Q.gq (Q.JV l0) l0 0 l1).length then ([],75) else (Q.ig 0 l2 ++ Q.gq (Q.JV l0) l0 0 l1,0) by
    rw [HR.out,if_neg (fun h => h HE.out)])
   obtain ⟨T,hT⟩ : ∃ T,T = Q.ig 0 l2 ++ Q.gq (Q.JV l0) l0 0 l1:=⟨_,rfl⟩
   have HBT:=Lib.hid (show T.length ≤ 1099511627776 by rw [hT]; exact HB.out HFT.out.1.1 _)
   rw [← hT] at HRX
   have HT0:=Lib.hid hT
   have qi : ¬ (l0.length : Int) < (l0.length : Int):=by omega
   clear hil hi HE0 HR hT
   go_wp2_with (first
    | ((with_reducible refine bI (N:=37) rfl ?_); refine ajz (ah.mk M5.out.mem) M5.out.typ ?_; clear M5 p0; intro v37 w5 M6; have p2:=M6.out.mem.mem.cell 0 rfl 2)
    | fail)
   go_loopg [7,8] l2.length (fun g v7 v8 wr => ∃ (i : Nat) (s : List UInt8),i + g = l2.length ∧ v8 = .int .i64 i ∧ jo w wr [(g1,#[.slice A0 l0.length c0,.slice A1 l1.length c1,.slice A2 l2.length c2],26)] v7 s ∧ s ++ Q.ig i (l2.drop i) = Q.ig 0 l2)
   case atStart => exact ⟨0,[],Nat.zero_add _,rfl,M6.out,by rw [List.drop_zero,List.nil_append]⟩
   case round =>
    clear M6 p2
    rename World => w7
    obtain ⟨i,s,hi,rfl,M7,heq⟩:=hrel
    have M8:=ah.mk M7
    have Hg:=Lib.hid heq
    clear M7 heq
    have p2:=M8.out.mem.mem.cell 0 rfl 2
    by_cases hil : i < l2.length
    ·obtain ⟨Ep,rfl⟩ : ∃ g,gk = g + 1:=⟨gk - 1,by omega⟩
     have HG:=Lib.hid hi
     obtain ⟨t,ht⟩ : ∃ t,l2[i]? = some t:=⟨_,List.getElem?_eq_getElem hil⟩
     have hrd : rX l2 (i : Int) = t:=by unfold rX; rw [Int.toNat_natCast,List.getD_eq_getElem?_getD,ht]; rfl
     have HDR:=Lib.hid (show l2.drop i = t :: l2.drop (i + 1) by
      obtain ⟨a1,a2⟩:=List.getElem?_eq_some_iff.1 ht
      rw [List.drop_eq_getElem_cons a1,a2])
     have qi : (i : Int) < (l2.length : Int):=by omega
     have W8:=Lib.hid (show wrap64 ((i : Int) + 1) = ((i + 1 : Nat) : Int) by rw [Int.natCast_add]; exact IntWalk.wrap64_in _ (by have:=Qp.out; omega))
     obtain ⟨ad,B0,d0,rfl,x0,x1,k0,g0⟩:=IC HP.out.g2 (i : Int) (by omega) qi
     rw [Int.toNat_natCast] at x0 x1
     rw [hrd] at x0 x1 k0 g0
     have HX0:=Lib.hid x0
     have JF:=Lib.hid x1
     have Yo:=Lib.hid g0
     have VD:=Lib.hid (HN3.out t (List.mem_of_getElem? ht))
     have HTC:=Lib.hid (show t.f0.all Q.rU = true from List.all_eq_true.1 HFT.out.1.2 t (List.mem_of_getElem? ht))
     obtain ⟨z,hz⟩ : ∃ z,z = Q.bs (Lib.itoa (i : Int)):=⟨_,rfl⟩
     have HZ:=Lib.hid (show aJ.f 17 (i : Int) = some z by rw [hz]; exact Q.Ld i (by have:=Qp.out; omega))
     have HSL:=Lib.hid (wC Hg.out HB2.out)
     have acM:=Q.vT (i : Int) (by omega) (by have:=Qp.out; omega)
     have ov : (9223372036854775807 < 7 + z.size) = False:=eq_false (by rw [hz,Q.eX]; omega)
     have HY:=Lib.hid (show s ++ (⟨#[116,97,98,108,101,32,116]⟩ ++ z).data.toList = s ++ ([116,97,98,108,101,32,116] ++ Lib.itoa (i : Int)) by rw [hz]; show _ ++ (Q.bs [116,97,98,108,101,32,116] ++ Q.bs _).data.toList = _; rw [Q.iD,Q.wV])
     have HL1:=Lib.hid (show (s ++ ([116,97,98,108,101,32,116] ++ Lib.itoa (i : Int))).length ≤ 1099511627876 by have h1:=HSL.out; simp only [List.length_append,List.length_cons,List.length_nil]; omega)
     clear hrd ht hil hi x0 x1 g0 k0 hz acM
     go_wp2_with fail
     refine (GA.aJ.calls 17 (i : Int) z _ HZ.out).mono ?_
     rintro e W9 ⟨rfl,hb9⟩
     have M9:=ah.mk (M8.out.call hb9)
     clear M8 hb9 p2
     go_upto_if 55 with (first
      | ((with_reducible refine bI (N:=49) rfl ?_); refine yA M9 49 (⟨#[116,97,98,108,101,32,116]⟩ ++ z) _ HY.out (by have:=HL1.out; omega) ?_; clear M9; intro v49 w49 M10; have p2:=M10.out.mem.mem.cell 0 rfl 2; have y1:=(M10.out.below.cell (World.block_lt_of_cell? w _ JF.out)).trans JF.out)
      | fail)
     go_cut [7] (fun v7 wc => ∃ s1,s1 = s ++ ([116,97,98,108,101,32,116] ++ Lib.itoa (i : Int)) ++ (if t.f1 then [32,100,101,102,97,117,108,116] else []) ∧ jo w wc [(g1,#[.slice A0 l0.length c0,.slice A1 l1.length c1,.slice (some ad) l2.length c2],26)] v7 s1)
     case first =>
      cases ht1 : t.f1 with
      | true =>
       have HT1:=Lib.hid ht1
       rw [ht1] at y1
       clear ht1
       go_wp2_with (first
        | ((with_reducible refine bI (N:=57) rfl ?_); refine yA M10 57 ⟨#[32,100,101,102,97,117,108,116]⟩ _ rfl (by have h:=HL1.out; rw [List.length_append]; show _ + 8 ≤ _; omega) ?_; clear M10; intro v57 w57 M11)
        | fail)
       go_meet
       case rel => exact ⟨_,by rw [if_pos HT1.out],M11.out⟩
      | false =>
       have HT1:=Lib.hid ht1
       rw [ht1] at y1
       clear ht1
       go_wp2
       go_meet
       case rel => exact ⟨_,by rw [if_neg (by rw [HT1.out]; simp),List.append_nil],M10.out⟩
     case rest =>
      clear M10 p2 y1 ov
      rename World => Qg
      obtain ⟨s1,hs1,M11⟩:=hcut
      have M12:=ah.mk M11
      have HE2:=Lib.hid (show (s1 ++ [10]) ++ Q.qU t.f0 ++ Q.ig (i + 1) (l2.drop (i + 1)) = Q.ig 0 l2 by
       rw [← Hg.out,Q.KL HDR.out,hs1,Q.X6]
       simp)
      have Un:=Lib.hid (wC HE2.out HB2.out)
      clear M11 hs1
      have p2:=M12.out.mem.mem.cell 0 rfl 2
      have y0:=(M12.out.below.cell (World.block_lt_of_cell? w _ HX0.out)).trans HX0.out
      go_wp2_with (first
       | ((with_reducible refine bI (N:=60) rfl ?_); refine yO M12 60 10 10 (by have h:=Un.out; simp only [List.length_append,List.length_cons,List.length_nil] at h; omega) ?_ rfl; clear M12 p2 y0; intro v60 w60 M13; have p2:=M13.out.mem.mem.cell 0 rfl 2; have y0:=(M13.out.below.cell (World.block_lt_of_cell? w _ HX0.out)).trans HX0.out)
       | fail)
      clear y0
      go_loopg [7,9] t.f0.length (fun g v7 v9 wr => ∃ (j : Nat) (s2 : List UInt8),j + g = t.f0.length ∧ v9 = .int .i64 j ∧ jo w wr [(g1,#[.slice A0 l0.length c0,.slice A1 l1.length c1,.slice (some ad) l2.length c2],26)] v7 s2 ∧ s2 ++ Q.qU (t.f0.drop j) = (s1 ++ [10]) ++ Q.qU t.f0)
      case atStart => exact ⟨0,_,Nat.zero_add _,rfl,M13.out,by rw [List.drop_zero]⟩
      case round =>
       clear M13 p2
       rename World => w14
       obtain ⟨j,s2,hj,rfl,M14,heq⟩:=hrel
       have wJ:=ah.mk M14
       have aei:=Lib.hid heq
       clear M14 heq
       have p2:=wJ.out.mem.mem.cell 0 rfl 2
       have yt:=(wJ.out.below.cell (World.block_lt_of_cell? w _ HX0.out)).trans HX0.out
       by_cases hjl : j < t.f0.length
       ·obtain ⟨G5,rfl⟩ : ∃ g,gk = g + 1:=⟨gk - 1,by omega⟩
        have HG2:=Lib.hid hj
        obtain ⟨x,hx⟩ : ∃ x,t.f0[j]? = some x:=⟨_,List.getElem?_eq_getElem hjl⟩
        have hrd : wM t.f0 (j : Int) = x:=by unfold wM; rw [Int.toNat_natCast,List.getD_eq_getElem?_getD,hx]; rfl
        have HDX:=Lib.hid (show t.f0.drop j = x :: t.f0.drop (j + 1) by
         obtain ⟨a1,a2⟩:=List.getElem?_eq_some_iff.1 hx
         rw [List.drop_eq_getElem_cons a1,a2])
        have Ym:=Lib.hid (show Q.vH x.f1 = true ∧ Q.vH x.f2 = true ∧ (x.f0 = true ∨ Q.vH x.f3 = true) by
         have h:=List.all_eq_true.1 HTC.out x (List.mem_of_getElem? hx)
         unfold Q.rU at h
         simpa only [Bool.and_eq_true,Bool.or_eq_true,and_assoc] using h)
        have qj : (j : Int) < (t.f0.length : Int):=by omega
        have W9:=Lib.hid (show wrap64 ((j : Int) + 1) = ((j + 1 : Nat) : Int) by rw [Int.natCast_add]; exact IntWalk.wrap64_in _ (by have:=VD.out; omega))
        obtain ⟨Ut,rfl,x0,x1,x2,x3⟩:=KU Yo.out (j : Int) (by omega) qj
        rw [Int.toNat_natCast] at x0 x1 x2 x3
        rw [hrd] at x0 x1 x2 x3
        have HB1:=Lib.hid wJ.out.below
        have y0:=(HB1.out.cell (World.block_lt_of_cell? w _ x0)).trans x0
        have y1:=(HB1.out.cell (World.block_lt_of_cell? w _ x1)).trans x1
        have y2:=(HB1.out.cell (World.block_lt_of_cell? w _ x2)).trans x2
        have y3:=(HB1.out.cell (World.block_lt_of_cell? w _ x3)).trans x3
        have HCS:=Lib.hid (show s2 ++ (Q.AU x ++ [10]) ++ Q.qU (t.f0.drop (j + 1)) = (s1 ++ [10]) ++ Q.qU t.f0 by
         rw [← aei.out,HDX.out]
         simp [Q.qU])
        have HL3:=Lib.hid (show (s2 ++ (Q.AU x ++ [10])).length ≤ 140737488355328 by have h1:=wC HCS.out Un.out; omega)
        clear hrd hx hjl hj x0 x1 x2 x3 HB1
        obtain ⟨s3,hs3⟩ : ∃ s3,s3 = s2 ++ (Q.AU x ++ [10]):=⟨_,rfl⟩
        rw [← hs3] at HCS HL3
        cases hs : x.f0 with
        | true =>
         have HSB:=Lib.hid hs
         go_wp2_with (first
          | ((with_reducible refine bI (N:=10) rfl ?_); refine yB wJ 10 #[.bool false,.int .i64 0,.int .i64 0,.int .i64 0] 46 ?_; clear wJ; intro g10 wb BF)
          | ((with_reducible refine aU (t:=46) (p:=10) rfl ?_); refine yR BF 46 10 1 #[.bool x.f0,.int .i64 x.f1,.int .i64 x.f2,.int .i64 x.f3] ?_; clear BF y0 y1 y2 y3 yt; intro wc BM; have z0:=BM.out.mem.mem.cell 1 rfl 0; rw [HSB.out] at z0)
          | fail)
         have HZ1:=Lib.hid (Q.DU (Q.qw Ym.out.1) 8 (Nat.le_refl _))
         have HZ2:=Lib.hid (Q.DU (Q.qw Ym.out.2.1) 8 (Nat.le_refl _))
         have HI1:=Lib.hid (Q.jL (Q.qw Ym.out.1))
         have HI2:=Lib.hid (Q.jL (Q.qw Ym.out.2.1))
         have HKK:=Lib.hid (show Know [(⟨g10,1,none⟩,.int .i64 x.f1),(⟨g10,2,none⟩,.int .i64 x.f2),(⟨g10,3,none⟩,.int .i64 x.f3)] wc from fun c hc => by
          simp only [List.mem_cons,List.not_mem_nil,or_false] at hc
          rcases hc with rfl | rfl | rfl
          ·exact BM.out.mem.mem.cell 1 rfl 1
          ·exact BM.out.mem.mem.cell 1 rfl 2
          ·exact BM.out.mem.mem.cell 1 rfl 3)
         obtain ⟨y1,hy1⟩ : ∃ z,z = Q.bs (Lib.itoa x.f1):=⟨_,rfl⟩
         obtain ⟨y2,hy2⟩ : ∃ z,z = Q.bs (Lib.itoa x.f2):=⟨_,rfl⟩
         rw [← hy1] at HZ1
         rw [← hy2] at HZ2
         have hl1 : y1.size ≤ 8:=by rw [hy1,Q.eX]; exact HI1.out
         have hl2 : y2.size ≤ 8:=by rw [hy2,Q.eX]; exact HI2.out
         obtain ⟨t1,ht1⟩ : ∃ t,t = (⟨#[115,101,110,100,32,114]⟩ : ByteArray) ++ y1:=⟨_,rfl⟩
         have HO1:=Lib.hid (show (⟨#[115,101,110,100,32,114]⟩ : ByteArray).size + (y1 : ByteArray).size ≤ 9223372036854775807 by show 6 + _ ≤ _; omega)
         have hs11 : t1.size ≤ 14:=by rw [ht1,ByteArray.size_append]; show 6 + _ ≤ _; omega
         have HT1:=Lib.hid ht1
         obtain ⟨t2,ht2⟩ : ∃ t,t = t1 ++ ⟨#[32,114]⟩:=⟨_,rfl⟩
         have HO2:=Lib.hid (show t1.size + (⟨#[32,114]⟩ : ByteArray).size ≤ 9223372036854775807 by show _ + 2 ≤ _; omega)
         have acQ : t2.size ≤ 16:=by rw [ht2,ByteArray.size_append]; show _ + 2 ≤ _; omega
         have HT2:=Lib.hid ht2
         obtain ⟨t3,ht3⟩ : ∃ t,t = t2 ++ y2:=⟨_,rfl⟩
         have HO3:=Lib.hid (show t2.size + (y2 : ByteArray).size ≤ 9223372036854775807 by omega)
         have acR : t3.size ≤ 24:=by rw [ht3,ByteArray.size_append]; omega
         have HT3:=Lib.hid ht3
         obtain ⟨t4,ZL⟩ : ∃ t,t = t3 ++ ⟨#[10]⟩:=⟨_,rfl⟩
         have HO4:=Lib.hid (show t3.size + (⟨#[10]⟩ : ByteArray).size ≤ 9223372036854775807 by show _ + 1 ≤ _; omega)
         have acS : t4.size ≤ 25:=by rw [ZL,ByteArray.size_append]; show _ + 1 ≤ _; omega
         have HT4:=Lib.hid ZL
         have HY:=Lib.hid (show s2 ++ t4.data.toList = s3 by
          rw [ZL,ht3,ht2,ht1,hy1,hy2,hs3]
          show s2 ++ (Q.bs [115,101,110,100,32,114] ++ Q.bs _ ++ Q.bs [32,114] ++ Q.bs _ ++ Q.bs [10]).data.toList = _
          rw [Q.iD,Q.iD,Q.iD,Q.iD,Q.wV]
          unfold Q.AU Q.OE
          rw [hs]
          simp [Q.tu])
         clear hs hy1 hy2 hs3 hl1 hl2 HI1 HI2 ht1 ht2 ht3 ZL hs11 acQ acR acS
         refine N9 [11] _ BM HKK.out (fun w' MD HK => ?_)
         clear BM HKK z0 p2
         refine kP 0 83 (u7) ?_
         simp only [Act.put,bF,bH,bG]
         refine kP 1 84 (.pointer (some ⟨g10,1,none⟩)) ?_
         simp only [Act.put,bF,bH,bG]
         refine kE HK 2 85 0 ?_
         simp only [Act.put,bF,bH,bG]
         refine kP 6 89 (.pointer (some ⟨g10,2,none⟩)) ?_
         simp only [Act.put,bF,bH,bG]
         refine kE HK 7 90 1 ?_
         simp only [Act.put,bF,bH,bG]
         refine kR [3] ?_
         refine kKc HK 3 86 Tryz.func44 #[.int .i64 x.f1] (.string y1) (GA.aJ.calls 8 x.f1 _ _ HZ1.out) (fun w' hb FC => ?_) aK.nil
         have ME:=ah.mk (MD.out.call hb)
         clear HK hb MD
         have HK:=FC
         clear FC
         simp only [Act.put,bF,bH,bG]
         refine kP 4 87 (.string (t1)) ?_ (hy:=vU HT1.out HO1.out rfl rfl rfl)
         simp only [Act.put,bF,bH,bG]
         refine kP 5 88 (.string (t2)) ?_ (hy:=vU HT2.out HO2.out rfl rfl rfl)
         simp only [Act.put,bF,bH,bG]
         refine kR [8] ?_
         refine kKc HK 8 91 Tryz.func44 #[.int .i64 x.f2] (.string y2) (GA.aJ.calls 8 x.f2 _ _ HZ2.out) (fun w' hb FC => ?_) aK.nil
         have MF:=ah.mk (ME.out.call hb)
         clear HK hb ME
         have HK:=FC
         clear FC
         simp only [Act.put,bF,bH,bG]
         refine kP 9 92 (.string (t3)) ?_ (hy:=vU HT3.out HO3.out rfl rfl rfl)
         simp only [Act.put,bF,bH,bG]
         refine kP 10 93 (.string (t4)) ?_ (hy:=vU HT4.out HO4.out rfl rfl rfl)
         simp only [Act.put,bF,bH,bG]
         refine kR [11] ?_
         refine kAs MF 11 94 t4 s3 HY.out HL3.out (fun v94 w94 MG => ?_) aK.nil
         clear MF HK
         simp only [Act.put,bF,bH,bG]
         refine kP 12 7 (v94) ?_
         simp only [Act.put,bF,bH,bG]
         refine iG ?_
         go_wp2
         go_roundg G5
         case measure => omega
         case rel => exact ⟨j + 1,s3,by have:=HG2.out; omega,by rw [W9.out],MG.out.forget 1,HCS.out⟩
        | false =>
         have HSB:=Lib.hid hs
         go_wp2_with (first
          | ((with_reducible refine bI (N:=10) rfl ?_); refine yB wJ 10 #[.bool false,.int .i64 0,.int .i64 0,.int .i64 0] 46 ?_; clear wJ; intro g10 wb BF)
          | ((with_reducible refine aU (t:=46) (p:=10) rfl ?_); refine yR BF 46 10 1 #[.bool x.f0,.int .i64 x.f1,.int .i64 x.f2,.int .i64 x.f3] ?_; clear BF y0 y1 y2 y3 yt; intro wc BM; have z0:=BM.out.mem.mem.cell 1 rfl 0; rw [HSB.out] at z0)
          | fail)
         have HZ1:=Lib.hid (Q.DU (Q.qw Ym.out.1) 8 (Nat.le_refl _))
         have HZ2:=Lib.hid (Q.DU (Q.qw Ym.out.2.1) 8 (Nat.le_refl _))
         have HI1:=Lib.hid (Q.jL (Q.qw Ym.out.1))
         have HI2:=Lib.hid (Q.jL (Q.qw Ym.out.2.1))
         have HKK:=Lib.hid (show Know [(⟨g10,1,none⟩,.int .i64 x.f1),(⟨g10,2,none⟩,.int .i64 x.f2),(⟨g10,3,none⟩,.int .i64 x.f3)] wc from fun c hc => by
          simp only [List.mem_cons,List.not_mem_nil,or_false] at hc
          rcases hc with rfl | rfl | rfl
          ·exact BM.out.mem.mem.cell 1 rfl 1
          ·exact BM.out.mem.mem.cell 1 rfl 2
          ·exact BM.out.mem.mem.cell 1 rfl 3)
         obtain ⟨y1,hy1⟩ : ∃ z,z = Q.bs (Lib.itoa x.f1):=⟨_,rfl⟩
         obtain ⟨y2,hy2⟩ : ∃ z,z = Q.bs (Lib.itoa x.f2):=⟨_,rfl⟩
         rw [← hy1] at HZ1
         rw [← hy2] at HZ2
         have hl1 : y1.size ≤ 8:=by rw [hy1,Q.eX]; exact HI1.out
         have hl2 : y2.size ≤ 8:=by rw [hy2,Q.eX]; exact HI2.out
         have hr3 : Q.vH x.f3 = true:=by rcases Ym.out.2.2 with h | h; exact absurd (hs.symm.trans h) (by simp); exact h
         have HZ3:=Lib.hid (Q.DU (Q.qw hr3) 8 (Nat.le_refl _))
         have hl3:=Q.jL (Q.qw hr3)
         obtain ⟨y3,hy3⟩ : ∃ z,z = Q.bs (Lib.itoa x.f3):=⟨_,rfl⟩
         rw [← hy3] at HZ3
         have hl3 : y3.size ≤ 8:=by rw [hy3,Q.eX]; exact hl3
         obtain ⟨t1,ht1⟩ : ∃ t,t = (⟨#[114,101,99,118,32,114]⟩ : ByteArray) ++ y1:=⟨_,rfl⟩
         have HO1:=Lib.hid (show (⟨#[114,101,99,118,32,114]⟩ : ByteArray).size + (y1 : ByteArray).size ≤ 9223372036854775807 by show 6 + _ ≤ _; omega)
         have hs11 : t1.size ≤ 14:=by rw [ht1,ByteArray.size_append]; show 6 + _ ≤ _; omega
         have HT1:=Lib.hid ht1
         obtain ⟨t2,ht2⟩ : ∃ t,t = t1 ++ ⟨#[32,114]⟩:=⟨_,rfl⟩
         have HO2:=Lib.hid (show t1.size + (⟨#[32,114]⟩ : ByteArray).size ≤ 9223372036854775807 by show _ + 2 ≤ _; omega)
         have acQ : t2.size ≤ 16:=by rw [ht2,ByteArray.size_append]; show _ + 2 ≤ _; omega
         have HT2:=Lib.hid ht2
         obtain ⟨t3,ht3⟩ : ∃ t,t = t2 ++ y2:=⟨_,rfl⟩
         have HO3:=Lib.hid (show t2.size + (y2 : ByteArray).size ≤ 9223372036854775807 by omega)
         have acR : t3.size ≤ 24:=by rw [ht3,ByteArray.size_append]; omega
         have HT3:=Lib.hid ht3
         obtain ⟨t4,ZL⟩ : ∃ t,t = t3 ++ ⟨#[32,114]⟩:=⟨_,rfl⟩
         have HO4:=Lib.hid (show t3.size + (⟨#[32,114]⟩ : ByteArray).size ≤ 9223372036854775807 by show _ + 2 ≤ _; omega)
         have acS : t4.size ≤ 26:=by rw [ZL,ByteArray.size_append]; show _ + 2 ≤ _; omega
         have HT4:=Lib.hid ZL
         obtain ⟨t5,ht5⟩ : ∃ t,t = t4 ++ y3:=⟨_,rfl⟩
         have HO5:=Lib.hid (show t4.size + (y3 : ByteArray).size ≤ 9223372036854775807 by omega)
         have ai7 : t5.size ≤ 34:=by rw [ht5,ByteArray.size_append]; omega
         have HT5:=Lib.hid ht5
         obtain ⟨t6,ht6⟩ : ∃ t,t = t5 ++ ⟨#[10]⟩:=⟨_,rfl⟩
         have HO6:=Lib.hid (show t5.size + (⟨#[10]⟩ : ByteArray).size ≤ 9223372036854775807 by show _ + 1 ≤ _; omega)
         have ai8 : t6.size ≤ 35:=by rw [ht6,ByteArray.size_append]; show _ + 1 ≤ _; omega
         have HT6:=Lib.hid ht6
         have HY:=Lib.hid (show s2 ++ t6.data.toList = s3 by
          rw [ht6,ht5,ZL,ht3,ht2,ht1,hy1,hy2,hy3,hs3]
          show s2 ++ (Q.bs [114,101,99,118,32,114] ++ Q.bs _ ++ Q.bs [32,114] ++ Q.bs _ ++ Q.bs [32,114] ++ Q.bs _ ++ Q.bs [10]).data.toList = _
          rw [Q.iD,Q.iD,Q.iD,Q.iD,Q.iD,Q.iD,Q.wV]
          unfold Q.AU Q.OE
          rw [hs]
          simp [Q.tu])
         clear hs hy1 hy2 hy3 hs3 hl1 hl2 hl3 hr3 HI1 HI2 ht1 ht2 ht3 ZL ht5 ht6 hs11 acQ acR acS ai7 ai8
         refine N9 [16] _ BM HKK.out (fun w' MD HK => ?_)
         clear BM HKK z0 p2
         refine kP 0 95 (u7) ?_
         simp only [Act.put,bF,bH,bG]
         refine kP 1 96 (.pointer (some ⟨g10,1,none⟩)) ?_
         simp only [Act.put,bF,bH,bG]
         refine kE HK 2 97 0 ?_
         simp only [Act.put,bF,bH,bG]
         refine kP 6 101 (.pointer (some ⟨g10,2,none⟩)) ?_
         simp only [Act.put,bF,bH,bG]
         refine kE HK 7 102 1 ?_
         simp only [Act.put,bF,bH,bG]
         refine kP 11 106 (.pointer (some ⟨g10,3,none⟩)) ?_
         simp only [Act.put,bF,bH,bG]
         refine kE HK 12 107 2 ?_
         simp only [Act.put,bF,bH,bG]
         refine kR [3] ?_
         refine kKc HK 3 98 Tryz.func44 #[.int .i64 x.f1] (.string y1) (GA.aJ.calls 8 x.f1 _ _ HZ1.out) (fun w' hb FC => ?_) aK.nil
         have ME:=ah.mk (MD.out.call hb)
         clear HK hb MD
         have HK:=FC
         clear FC
         simp only [Act.put,bF,bH,bG]
         refine kP 4 99 (.string (t1)) ?_ (hy:=vU HT1.out HO1.out rfl rfl rfl)
         simp only [Act.put,bF,bH,bG]
         refine kP 5 100 (.string (t2)) ?_ (hy:=vU HT2.out HO2.out rfl rfl rfl)
         simp only [Act.put,bF,bH,bG]
         refine kR [8] ?_
         refine kKc HK 8 103 Tryz.func44 #[.int .i64 x.f2] (.string y2) (GA.aJ.calls 8 x.f2 _ _ HZ2.out) (fun w' hb FC => ?_) aK.nil
         have MF:=ah.mk (ME.out.call hb)
         clear HK hb ME
         have HK:=FC
         clear FC
         simp only [Act.put,bF,bH,bG]
         refine kP 9 104 (.string (t3)) ?_ (hy:=vU HT3.out HO3.out rfl rfl rfl)
         simp only [Act.put,bF,bH,bG]
         refine kP 10 105 (.string (t4)) ?_ (hy:=vU HT4.out HO4.out rfl rfl rfl)
         simp only [Act.put,bF,bH,bG]
         refine kR [13] ?_
         refine kKc HK 13 108 Tryz.func44 #[.int .i64 x.f3] (.string y3) (GA.aJ.calls 8 x.f3 _ _ HZ3.out) (fun w' hb FC => ?_) aK.nil
         have MF2:=ah.mk (MF.out.call hb)
         clear HK hb MF
         have HK:=FC
         clear FC
         simp only [Act.put,bF,bH,bG]
         refine kP 14 109 (.string (t5)) ?_ (hy:=vU HT5.out HO5.out rfl rfl rfl)
         simp only [Act.put,bF,bH,bG]
         refine kP 15 110 (.string (t6)) ?_ (hy:=vU HT6.out HO6.out rfl rfl rfl)
         simp only [Act.put,bF,bH,bG]
         refine kR [16] ?_
         refine kAs MF2 16 111 t6 s3 HY.out HL3.out (fun v94 w94 MG => ?_) aK.nil
         clear MF2 HK
         simp only [Act.put,bF,bH,bG]
         refine kP 17 7 (v94) ?_
         simp only [Act.put,bF,bH,bG]
         refine iG ?_
         go_wp2
         go_roundg G5
         case measure => omega
         case rel => exact ⟨j + 1,s3,by have:=HG2.out; omega,by rw [W9.out],MG.out.forget 1,HCS.out⟩
       ·obtain rfl : j = t.f0.length:=by omega
        have HF:=Lib.hid (show s2 ++ Q.ig (i + 1) (l2.drop (i + 1)) = Q.ig 0 l2 by
         have h:=aei.out
         rw [List.drop_length] at h
         rw [← HE2.out,← h]
         simp [Q.qU])
        have qj : ¬ (t.f0.length : Int) < (t.f0.length : Int):=by omega
        clear hjl hj
        go_wp2
        go_roundg Ep
        case measure => omega
        case rel => exact ⟨i + 1,s2,by have:=HG.out; omega,by rw [W8.out],wJ.out,HF.out⟩
    ·obtain rfl : i = l2.length:=by omega
     have HTX:=Lib.hid (show s = Q.ig 0 l2 by
      have h:=Hg.out
      rw [List.drop_length,Q.ig,List.append_nil] at h
      exact h)
     have qi : ¬ (l2.length : Int) < (l2.length : Int):=by omega
     clear hil hi Hg
     have p1:=M8.out.mem.mem.cell 0 rfl 1
     go_wp2_with fail
     clear p2
     go_loopg [7,11] l1.length (fun g v7 v11 wr => ∃ (j : Nat) (s1 : List UInt8) (at_ : Int),j + g = l1.length ∧ v11 = .int .i64 j ∧ jo w wr [(g1,#[.slice A0 l0.length c0,.slice A1 l1.length c1,.slice A2 l2.length c2],26)] v7 s1 ∧ Q.sW T s1 (Q.gq (Q.JV l0) l0 j (l1.drop j)) ∧ Q.dG l0.length at_ (l1.drop j) = true ∧ 0 ≤ at_ ∧ at_ ≤ (l0.length : Int))
     case atStart => exact ⟨0,s,0,Nat.zero_add _,rfl,M8.out,.inl (by rw [List.drop_zero,HTX.out,← HT0.out]),by rw [List.drop_zero]; exact Q.Cc HFT.out.1.1,Int.le_refl _,by omega⟩
     case round =>
      clear M8 p1
      rename World => w20
      obtain ⟨j,s1,at_,hj,rfl,VE,hso,hparts,ha0,ha1⟩:=hrel
      have RY:=ah.mk VE
      have HSO:=Lib.hid hso
      clear VE hso
      have p1:=RY.out.mem.mem.cell 0 rfl 1
      by_cases hjl : j < l1.length
      ·obtain ⟨Ep,rfl⟩ : ∃ g,gk = g + 1:=⟨gk - 1,by omega⟩
       have HG:=Lib.hid hj
       obtain ⟨f,hf⟩ : ∃ f,l1[j]? = some f:=⟨_,List.getElem?_eq_getElem hjl⟩
       have hdr : l1.drop j = f :: l1.drop (j + 1):=by
        obtain ⟨a1,a2⟩:=List.getElem?_eq_some_iff.1 hf
        rw [List.drop_eq_getElem_cons a1,a2]
       have HDR:=Lib.hid hdr
       rw [hdr] at hparts
       obtain ⟨rfl,hp2,hp3,WU⟩:=Q.xR hparts
       have HP4:=Lib.hid WU
       have HF:=Lib.hid (And.intro ha0 (And.intro hp2 hp3))
       have HFM:=Lib.hid (List.mem_of_getElem? hf)
       have qj : (j : Int) < (l1.length : Int):=by omega
       have W11:=Lib.hid (show wrap64 ((j : Int) + 1) = ((j + 1 : Nat) : Int) by rw [Int.natCast_add]; exact IntWalk.wrap64_in _ (by have:=Yr.out; omega))
       obtain ⟨ad,rfl,x0,x1⟩:=DK HP.out.g1 (j : Int) (by omega) qj
       rw [Int.toNat_natCast] at x0 x1
       rw [Q.Jk hf] at x0 x1
       have HX0:=Lib.hid x0
       have JF:=Lib.hid x1
       obtain ⟨z,hz⟩ : ∃ z,z = Q.bs (Lib.itoa (j : Int)):=⟨_,rfl⟩
       have HZ:=Lib.hid (show aJ.f 17 (j : Int) = some z by rw [hz]; exact Q.Ld j (by have:=Yr.out; omega))
       have acM:=Q.vT (j : Int) (by omega) (by have:=Yr.out; omega)
       have ov : (9223372036854775807 < 6 + z.size) = False:=eq_false (by rw [hz,Q.eX]; omega)
       have ov2 : (9223372036854775807 < 6 + z.size + 1) = False:=eq_false (by rw [hz,Q.eX]; omega)
       have HY:=Lib.hid (show s1 ++ (⟨#[102,117,110,99,32,102]⟩ ++ z ++ ⟨#[10]⟩ : ByteArray).data.toList = s1 ++ ([102,117,110,99,32,102] ++ Lib.itoa (j : Int) ++ [10]) by rw [hz]; show _ ++ (Q.bs [102,117,110,99,32,102] ++ Q.bs _ ++ Q.bs [10]).data.toList = _; rw [Q.iD,Q.iD,Q.wV])
       have aeB:=Lib.hid (show Q.sW T (s1 ++ ([102,117,110,99,32,102] ++ Lib.itoa (j : Int) ++ [10])) (Q.sH (Q.JV l0) f.f0 (Q.wordsOf l0 f) ++ Q.gq (Q.JV l0) l0 (j + 1) (l1.drop (j + 1))) from Q.sW.step (by
        have h:=HSO.out
        rw [Q.IZ HDR.out,Q.OW] at h
        simpa only [List.append_assoc] using h))
       have HL1:=Lib.hid (show (s1 ++ ([102,117,110,99,32,102] ++ Lib.itoa (j : Int) ++ [10])).length ≤ 140737488355328 by have h:=aeB.out.len; have h2:=HBT.out; omega)
       clear hf hjl hj x0 x1 WU hp2 hp3 ha0 ha1 hdr hparts hz acM
       go_wp2_with fail
       refine (GA.aJ.calls 17 (j : Int) z _ HZ.out).mono ?_
       rintro e W22 ⟨rfl,Wq⟩
       have Yg:=ah.mk (RY.out.call Wq)
       clear RY Wq p1
       go_wp2_with (first
        | ((with_reducible refine bI (N:=124) rfl ?_); refine yA Yg 124 (⟨#[102,117,110,99,32,102]⟩ ++ z ++ ⟨#[10]⟩) _ HY.out HL1.out ?_; clear Yg; intro v124 anb M23; have p1:=M23.out.mem.mem.cell 0 rfl 1; have y0:=(M23.out.below.cell (World.block_lt_of_cell? w _ HX0.out)).trans HX0.out)
        | fail)
       clear y0 ov ov2
       go_loopg [7,12] (f.f1 - f.f0).toNat (fun g v7 v12 wr => ∃ (i : Nat) (s2 : List UInt8),i + g = (f.f1 - f.f0).toNat ∧ v12 = .int .i64 (f.f0 + i) ∧ jo w wr [(g1,#[.slice A0 l0.length c0,.slice (some ad) l1.length c1,.slice A2 l2.length c2],26)] v7 s2 ∧ Q.sW T s2 (Q.sH (Q.JV l0) (f.f0 + i) ((Q.wordsOf l0 f).drop i) ++ Q.gq (Q.JV l0) l0 (j + 1) (l1.drop (j + 1))))
       case atStart => exact ⟨0,_,Nat.zero_add _,by rw [Int.natCast_zero,Int.add_zero],M23.out,by rw [Int.natCast_zero,Int.add_zero,List.drop_zero]; exact aeB.out⟩
       case round =>
        clear M23 p1
        rename World => w24
        obtain ⟨i,s2,hi,rfl,M24,hso⟩:=hrel
        have Qk:=ah.mk M24
        have Um:=Lib.hid hso
        clear M24 hso
        obtain ⟨Av,cv,rfl⟩:=Qk.out.len
        have p1:=Qk.out.mem.mem.cell 0 rfl 1
        have y1:=(Qk.out.below.cell (World.block_lt_of_cell? w _ JF.out)).trans JF.out
        by_cases hil : (i : Int) < f.f1 - f.f0
        ·have qa : f.f0 + (i : Int) < f.f1:=by omega
         by_cases hle : (s2.length : Int) ≤ 262144
         ·obtain ⟨G5,rfl⟩ : ∃ g,gk = g + 1:=⟨gk - 1,by omega⟩
          have HG2:=Lib.hid hi
          obtain ⟨x,hx,hxd,hxm⟩:=Q.CJ (l0:=l0) (f:=f) (i:=i) HF.out.1 hil HF.out.2.2
          have Om:=Lib.hid (HW.out x (List.mem_of_getElem? hx))
          have HXE:=Lib.hid (Q.FW l0 HE.out x (List.mem_of_getElem? hx))
          have W12:=Lib.hid (show wrap64 (f.f0 + (i : Int) + 1) = f.f0 + ((i + 1 : Nat) : Int) by rw [IntWalk.wrap64_in _ (by have h1:=Vf.out; have h2:=HF.out.2.2; have h3:=HF.out.1; omega)]; omega)
          obtain ⟨tb,htb⟩ : ∃ b,b = Q.JV l0 (f.f0 + (i : Int)):=⟨_,rfl⟩
          have Yp:=Lib.hid (show tb = Q.Kq l0 f (f.f0 + (i : Int)) by
           rw [htb]
           exact (Q.YX HFT.out.1.1 (fun g hg w hw => List.all_eq_true.1 (show Q.xq l0 l1 l2.length g = true from List.all_eq_true.1 HFT.out.2 g hg) w hw) HE.out HFM.out (by omega) qa).symm)
          have HSD:=Lib.hid (show Q.sW T s2 ((if tb then [76] ++ Lib.itoa (f.f0 + (i : Int)) ++ [58,10] else []) ++ ((Q.sZ x ++ [10]) ++ (Q.sH (Q.JV l0) (f.f0 + (i : Int) + 1) ((Q.wordsOf l0 f).drop (i + 1)) ++ Q.gq (Q.JV l0) l0 (j + 1) (l1.drop (j + 1))))) by
           have h:=Um.out
           rw [Q.UD hxd,← htb] at h
           simpa only [List.append_assoc] using h)
          obtain ⟨n,hn⟩ : ∃ n : Nat,f.f0 + (i : Int) = n:=⟨(f.f0 + (i : Int)).toNat,by have:=HF.out.1; omega⟩
          obtain ⟨zl,hzl⟩ : ∃ z,z = Q.bs (Q.sZ x):=⟨_,rfl⟩
          have HZL:=Lib.hid hzl
          have iK:=Lib.hid (show aH.f 20 l0 l1 l2 (f.f0 + (i : Int)) = some (zl,0) by
           rw [hzl,hn]
           exact Q.XJ HW.out (by rw [show n = f.f0.toNat + i by have:=HF.out.1; omega]; exact hx) HXE.out)
          obtain ⟨z2,hz2⟩ : ∃ z,z = Q.bs (Lib.itoa (f.f0 + (i : Int))):=⟨_,rfl⟩
          have HZ2:=Lib.hid (show aJ.f 17 (f.f0 + (i : Int)) = some z2 by
           rw [hz2,hn]
           exact Q.Ld n (by have:=Vf.out; have:=HF.out.2.2; omega))
          have hl2 : z2.size ≤ 21:=by rw [hz2,Q.eX]; exact Q.vT _ (by have:=HF.out.1; omega) (by have:=Vf.out; have:=HF.out.2.2; omega)
          have HY2:=Lib.hid (show s2 ++ (⟨#[76]⟩ ++ z2 ++ ⟨#[58,10]⟩ : ByteArray).data.toList = s2 ++ ([76] ++ Lib.itoa (f.f0 + (i : Int)) ++ [58,10]) by rw [hz2]; show _ ++ (Q.bs [76] ++ Q.bs _ ++ Q.bs [58,10]).data.toList = _; rw [Q.iD,Q.iD,Q.wV])
          have HKK:=Lib.hid (show Know [(⟨g1,0 + 0,none⟩,.slice A0 l0.length c0),(⟨g1,0 + 1,none⟩,.slice (some ad) l1.length c1),(⟨g1,0 + 2,none⟩,.slice A2 l2.length c2),(ad.add (j * 2),.int .i64 f.f0),(⟨(ad.add (j * 2)).block,(ad.add (j * 2)).off + 1,none⟩,.int .i64 f.f1)] w24 from fun c hc => by
           simp only [List.mem_cons,List.not_mem_nil,or_false] at hc
           rcases hc with rfl | rfl | rfl | rfl | rfl
           ·exact Qk.out.mem.mem.cell 0 rfl 0
           ·exact Qk.out.mem.mem.cell 0 rfl 1
           ·exact Qk.out.mem.mem.cell 0 rfl 2
           ·exact (Qk.out.below.cell (World.block_lt_of_cell? w _ HX0.out)).trans HX0.out
           ·exact (Qk.out.below.cell (World.block_lt_of_cell? w _ JF.out)).trans JF.out)
          have ov : (9223372036854775807 < 1 + z2.size) = False:=eq_false (by omega)
          have ov2 : (9223372036854775807 < 1 + z2.size + 2) = False:=eq_false (by omega)
          clear hx hxd hxm hil hi hn hzl hz2 hl2 htb
          go_wp2_with fail
          refine N9 [] _ Qk HKK.out (fun w' MD HK => ?_)
          clear Qk HKK p1 y1
          refine kM HK 0 146 g1 0 [.slice A0 l0.length c0,.slice (some ad) l1.length c1,.slice A2 l2.length c2] Tryz.underlying26 (by intro j u hj; rcases j with _ | _ | _ | j <;> simp at hj <;> subst hj <;> simp) ?_
          simp only [Act.put,bF,bH,bG]
          refine kP 1 147 (.pointer (some ⟨g1,1,none⟩)) ?_
          simp only [Act.put,bF,bH,bG]
          refine kE HK 2 148 1 ?_
          simp only [Act.put,bF,bH,bG]
          refine kP 3 149 (.int .i64 (j : Int)) ?_
          simp only [Act.put,bF,bH,bG]
          refine kP 4 150 (.pointer (some (ad.add (j * 2)))) ?_
          simp only [Act.put,bF,bH,bG]
          refine kL HK 5 151 (ad.add (j * 2)) [.int .i64 f.f0,.int .i64 f.f1] Tryz.underlying41 (by intro q u hq; rcases q with _ | _ | q <;> simp at hq <;> subst hq <;> simp [add0,aiG]) ?_
          simp only [Act.put,bF,bH,bG]
          refine kP 6 152 (.int .i64 (f.f0 + (i : Int))) ?_
          simp only [Act.put,bF,bH,bG]
          refine kR [7] ?_
          refine kKc HK 7 153 Tryz.func53 #[.agg #[.slice A0 l0.length c0,.slice (some ad) l1.length c1,.slice A2 l2.length c2],.agg #[.int .i64 f.f0,.int .i64 f.f1],.int .i64 (f.f0 + (i : Int))] (.bool tb) (by rw [Yp.out]; exact QL _ _ _ _ _ _ _ _ _ _ (HP.out.below MD.out.below) HW.out Vf.out f _ HF.out.1 (by have:=HF.out.2.1; omega) HF.out.2.2) (fun w' hb FC => ?_) aK.nil
          have ME:=ah.mk (MD.out.call hb)
          clear HK FC hb MD
          simp only [Act.put,bF,bH,bG]
          refine iG ?_
          cases tb with
          | true =>
           have HSE:=Lib.hid (Q.sW.step (show Q.sW T s2 (([76] ++ Lib.itoa (f.f0 + (i : Int)) ++ [58,10]) ++ ((Q.sZ x ++ [10]) ++ (Q.sH (Q.JV l0) (f.f0 + (i : Int) + 1) ((Q.wordsOf l0 f).drop (i + 1)) ++ Q.gq (Q.JV l0) l0 (j + 1) (l1.drop (j + 1))))) from HSD.out))
           have HL2:=Lib.hid (show (s2 ++ ([76] ++ Lib.itoa (f.f0 + (i : Int)) ++ [58,10])).length ≤ 140737488355328 by have h:=HSE.out.len; have h2:=HBT.out; omega)
           go_wp2_with fail
           refine (GA.aJ.calls 17 (f.f0 + (i : Int)) z2 _ HZ2.out).mono ?_
           rintro e' W32 ⟨rfl,ae8⟩
           have MF:=ah.mk (ME.out.call ae8)
           clear ME ae8
           go_wp2_with (first
            | ((with_reducible refine bI (N:=159) rfl ?_); refine yA MF 159 (⟨#[76]⟩ ++ z2 ++ ⟨#[58,10]⟩) _ HY2.out HL2.out ?_; clear MF; intro v159 anc MG; have p0:=MG.out.mem.mem.cell 0 rfl 0; have p1:=MG.out.mem.mem.cell 0 rfl 1; have p2:=MG.out.mem.mem.cell 0 rfl 2)
            | fail)
           clear ov ov2 p0 p1 p2
           have p0:=MG.out.mem.mem.cell 0 rfl 0
           have p1:=MG.out.mem.mem.cell 0 rfl 1
           have p2:=MG.out.mem.mem.cell 0 rfl 2
           go_wp2_with fail
           have HP2:=Lib.hid (HP.out.below MG.out.below)
           refine (GA.aH.calls 20 _ _ _ _ _ _ _ _ _ _ zl 0 _ HP2.out.g0 HP2.out.h0 HP2.out.g1 HP2.out.h1 HP2.out.g2 HP2.out.h2 iK.out).mono ?_
           rintro e' W34 ⟨rfl,Ws⟩
           have Yy:=ah.mk (MG.out.call Ws)
           clear MG Ws HP2 p0 p1 p2
           have HYL:=Lib.hid (show (s2 ++ ([76] ++ Lib.itoa (f.f0 + (i : Int)) ++ [58,10])) ++ (zl ++ ⟨#[10]⟩).data.toList = (s2 ++ ([76] ++ Lib.itoa (f.f0 + (i : Int)) ++ [58,10])) ++ (Q.sZ x ++ [10]) by rw [HZL.out]; show _ ++ (Q.bs _ ++ Q.bs [10]).data.toList = _; rw [Q.iD,Q.wV])
           have HSX:=Lib.hid (Q.sW.step HSE.out)
           have HLL:=Lib.hid (show ((s2 ++ ([76] ++ Lib.itoa (f.f0 + (i : Int)) ++ [58,10])) ++ (Q.sZ x ++ [10])).length ≤ 140737488355328 by have h:=HSX.out.len; have h2:=HBT.out; omega)
           have ov : (9223372036854775807 < zl.size + 1) = False:=eq_false (by have h:=HLL.out; rw [HZL.out,Q.eX]; simp only [List.length_append,List.length_cons,List.length_nil] at h; omega)
           go_wp2_with (first
            | ((with_reducible refine bI (N:=169) rfl ?_); refine yA Yy 169 (zl ++ ⟨#[10]⟩) _ HYL.out HLL.out ?_; clear Yy; intro ajr ajv M35)
            | fail)
           go_roundg G5
           case measure => omega
           case rel => exact ⟨i + 1,_,by have:=HG2.out; omega,by rw [W12.out],M35.out,by rw [Int.natCast_add,← Int.add_assoc]; exact HSX.out⟩
          | false =>
           have HSE:=Lib.hid (show Q.sW T s2 ((Q.sZ x ++ [10]) ++ (Q.sH (Q.JV l0) (f.f0 + (i : Int) + 1) ((Q.wordsOf l0 f).drop (i + 1)) ++ Q.gq (Q.JV l0) l0 (j + 1) (l1.drop (j + 1)))) from HSD.out)
           clear ov ov2
           have p0:=ME.out.mem.mem.cell 0 rfl 0
           have p1:=ME.out.mem.mem.cell 0 rfl 1
           have p2:=ME.out.mem.mem.cell 0 rfl 2
           go_wp2_with fail
           have HP2:=Lib.hid (HP.out.below ME.out.below)
           refine (GA.aH.calls 20 _ _ _ _ _ _ _ _ _ _ zl 0 _ HP2.out.g0 HP2.out.h0 HP2.out.g1 HP2.out.h1 HP2.out.g2 HP2.out.h2 iK.out).mono ?_
           rintro e' W34 ⟨rfl,Ws⟩
           have Yy:=ah.mk (ME.out.call Ws)
           clear ME Ws HP2 p0 p1 p2
           have HYL:=Lib.hid (show s2 ++ (zl ++ ⟨#[10]⟩).data.toList = s2 ++ (Q.sZ x ++ [10]) by rw [HZL.out]; show _ ++ (Q.bs _ ++ Q.bs [10]).data.toList = _; rw [Q.iD,Q.wV])
           have HSX:=Lib.hid (Q.sW.step HSE.out)
           have HLL:=Lib.hid (show (s2 ++ (Q.sZ x ++ [10])).length ≤ 140737488355328 by have h:=HSX.out.len; have h2:=HBT.out; omega)
           have ov : (9223372036854775807 < zl.size + 1) = False:=eq_false (by have h:=HLL.out; rw [HZL.out,Q.eX]; simp only [List.length_append,List.length_cons,List.length_nil] at h; omega)
           go_wp2_with (first
            | ((with_reducible refine bI (N:=169) rfl ?_); refine yA Yy 169 (zl ++ ⟨#[10]⟩) _ HYL.out HLL.out ?_; clear Yy; intro ajr ajv M35)
            | fail)
           go_roundg G5
           case measure => omega
           case rel => exact ⟨i + 1,_,by have:=HG2.out; omega,by rw [W12.out],M35.out,by rw [Int.natCast_add,← Int.add_assoc]; exact HSX.out⟩
         ·have HOV:=Lib.hid (Q.sW.over Um.out (by omega))
          clear hil hi Um
          go_wp2
          go_roundg Ep
          case measure => omega
          case rel => exact ⟨j + 1,s2,f.f1,by have:=HG.out; omega,by rw [W11.out],Qk.out,HOV.out,HP4.out,by have:=HF.out; omega,HF.out.2.2⟩
        ·have qa : ¬ f.f0 + (i : Int) < f.f1:=by omega
         have HOV:=Lib.hid (show Q.sW T s2 (Q.gq (Q.JV l0) l0 (j + 1) (l1.drop (j + 1))) by
          have h:=Um.out
          rw [List.drop_eq_nil_of_le (by rw [Q.xE HF.out.1 (by have:=HF.out.2.1; omega) HF.out.2.2]; omega),Q.sH,List.nil_append] at h
          exact h)
         clear hil hi Um
         go_wp2
         go_roundg Ep
         case measure => omega
         case rel => exact ⟨j + 1,s2,f.f1,by have:=HG.out; omega,by rw [W11.out],Qk.out,HOV.out,HP4.out,by have:=HF.out; omega,HF.out.2.2⟩
      ·obtain rfl : j = l1.length:=by omega
       have qj : ¬ (l1.length : Int) < (l1.length : Int):=by omega
       have HSF:=Lib.hid (show Q.sW T s1 [] by have h:=HSO.out; rwa [List.drop_length,Q.gq] at h)
       obtain ⟨Av,cv,rfl⟩:=RY.out.len
       clear hjl hj hparts ha0 ha1 HSO
       by_cases hlo : (262144 : Int) < (s1.length : Int)
       ·have HRZ:=Lib.hid (show Q.wF l0 l1 l2 = ([],75) by rw [HRX.out,if_pos (by have:=HSF.out.len; omega)])
        go_wp2
        go_ret2
        rw [HRZ.out]
        exact ⟨rfl,RY.out.below⟩
       ·have HS1 : s1 = T:=by
         rcases HSF.out with h | h
         ·rw [← h,List.append_nil]
         ·exact absurd h.1 (by omega)
        have HRZ:=Lib.hid (show Q.wF l0 l1 l2 = (s1,0) by rw [HRX.out,← HS1,if_neg (by omega)])
        clear HS1
        go_wp2_with (first
         | ((with_reducible refine bI (N:=174) rfl ?_); refine ajA RY 174 ?_ (hs:=Tryz.underlying87) (he:=Tryz.underlying5) (hdd:=Tryz.underlying9))
         | fail)
        go_ret2
        rw [HRZ.out]
        exact ⟨rfl,RY.out.below⟩
end Go.Proofs.YtdbpglhdicmhhaaGreatDoor.qp
end
