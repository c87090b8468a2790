import Derived.Test.YtdbpglhdicmhhaaGreatDoorMPr4
set_option maxHeartbeats 8000000
set_option maxRecDepth 100000
set_option linter.unusedVariables false
set_option linter.unusedSimpArgs false
section
namespace Go.Proofs.YtdbpglhdicmhhaaGreatDoor.GA
open Go.RowKit Go.Proofs.YtdbpglhdicmhhaaGreatDoorW.aI Go.Proofs.YtdbpglhdicmhhaaGreatDoorW.aX Go.Proofs.YtdbpglhdicmhhaaGreatDoorW.aZ
mutual
def cZ.j0 : Nat → ByteArray → Bool → Option (Bool)
 | 0,_,_ => none
 | k + 1,x0,x16 => if x16 = true then (some false) else (cZ.l0 k x0 (x0.size : Int) 0)
def cZ.l0 : Nat → ByteArray → Int → Int → Option (Bool)
 | 0,_,_,_ => none
 | k + 1,x0,x18,x19 => if x19 < x18 then (if 0 ≤ x19 then (if x19 < (x0.size : Int) then ((gU.f (bt x0 x19)).bind fun t105 => (if t105 = true then (cZ.l0 k x0 x18 (wrap64 (x19 + 1))) else ((gW.f (bt x0 x19)).bind fun Gi => (if Gi = true then (cZ.l0 k x0 x18 (wrap64 (x19 + 1))) else (some false))))) else (none)) else (none)) else (some true)
end
def cZ.f (k : Nat) (a0 : ByteArray) : Option (Bool):=if a0.toList = ([] : List UInt8) then (cZ.j0 k a0 true) else (if (a0.size : Int) > 32 then (cZ.j0 k a0 true) else (if 0 < (a0.size : Int) then ((gU.f (bt a0 0)).bind fun xg => (cZ.j0 k a0 (!xg))) else (none)))
theorem cZ.calls (k : Nat) (a0 : ByteArray) (r : Bool) (w : World) (h : cZ.f k a0 = some r) :
  Calls Tryz.prog 92 #[.string a0] w fun e w' => e = .returned (.bool r) ∧ aV w w':=by
 have H : (if a0.toList = ([] : List UInt8) then (cZ.j0 k a0 true) else (if (a0.size : Int) > 32 then (cZ.j0 k a0 true) else (if 0 < (a0.size : Int) then ((gU.f (bt a0 0)).bind fun xg => (cZ.j0 k a0 (!xg))) else (none)))) = some r:=h
 clear h
 have HC2:=ah.mk H
 clear H
 go_enter Tryz.func92,Tryz.ntmps92
 go_upto_region 1 with (fail)
 go_cut [16] (fun v16 wc => ∃ (kq : Nat) (Uc : Bool),v16 = .bool Uc ∧ ah (cZ.j0 kq a0 Uc = some r) ∧ ah (kq ≤ k) ∧ aV w wc)
 case first =>
  have H:=HC2.out
  clear HC2
  by_cases c3 : a0.toList = ([] : List UInt8)
  ·rw [if_pos c3] at H
   have rC : (a0.toList == ([] : List UInt8)) = true:=beq_iff_eq.mpr c3
   have Ag : (a0.toList != ([] : List UInt8)) = false:=bne_eq_false_iff_eq.mpr c3
   clear c3
   (first | rw [rC] | (simp only [fJ,fH]; rw [rC]) | skip)
   have H':=ah.mk H
   clear H
   go_wp2
   go_meet
   case rel => exact ⟨_,(true),(by first | rfl | (simp; done) | (simp [*]; done)),H',⟨by first | omega | exact Nat.le_refl _⟩,by repeat (first | exact aV.refl _ | apply aV.step)⟩
  ·rw [if_neg c3] at H
   have rC : (a0.toList == ([] : List UInt8)) = false:=beq_eq_false_iff_ne.mpr c3
   have Ag : (a0.toList != ([] : List UInt8)) = true:=bne_iff_ne.mpr c3
   (first | rw [rC] | (simp only [fJ,fH]; rw [rC]) | skip)
   by_cases c4 : (a0.size : Int) > 32
   ·rw [if_pos c4] at H
    have wU : decide (32 < (a0.size : Int)) = true:=decide_eq_true c4
    have BK : decide (32 < a0.size) = true:=decide_eq_true (by omega)
    clear c4
    have H':=ah.mk H
    clear H
    go_wp2
    go_meet
    case rel => exact ⟨_,(true),(by first | rfl | (simp; done) | (simp [*]; done)),H',⟨by first | omega | exact Nat.le_refl _⟩,by repeat (first | exact aV.refl _ | apply aV.step)⟩
   ·rw [if_neg c4] at H
    have wU : decide (32 < (a0.size : Int)) = false:=decide_eq_false c4
    have BK : decide (32 < a0.size) = false:=decide_eq_false (by omega)
    clear c4
    by_cases c5 : 0 < (a0.size : Int)
    ·rw [if_pos c5] at H
     have rZ : decide (0 < (a0.size : Int)) = true:=decide_eq_true c5
     have OD : decide (0 < a0.size) = true:=decide_eq_true (by omega)
     clear c5
     replace H:=Option.bind_eq_some_iff.mp H
     obtain ⟨xg,A70,H⟩:=H
     replace H : (cZ.j0 k a0 (!xg)) = some r:=H
     have A7:=ah.mk A70
     clear A70
     have H':=ah.mk H
     clear H
     have p6 : 0 ≤ (0 : Int):=(by omega)
     have q6 : 0 < a0.size:=(by have : (0 : Int) < (a0.size : Int):=of_decide_eq_true (by first | (with_reducible assumption) | assumption); omega)
     have hx6 : ∀ h : 0 < a0.size,((a0[0]'h).toNat : Int) = bt a0 0:=Gm a0 0
     clear p6
     have qi6 : (0 < (a0.size : Int)) = True:=eq_true (of_decide_eq_true (by first | (with_reducible assumption) | assumption))
     replace q6:=eq_true q6
     go_wp2_with (first | (go_at_call 116; (with_reducible refine (gU.calls (bt a0 0) xg _ A7.out).mono ?_); rintro e w' ⟨rfl,⟨nd,rfl⟩⟩))
     go_meet
     case rel => exact ⟨_,(!xg),(by first | rfl | (simp; done) | (simp [*]; done)),H',⟨by first | omega | exact Nat.le_refl _⟩,by repeat (first | exact aV.refl _ | apply aV.step)⟩
    ·rw [if_neg c5] at H
     exact absurd H (by simp)
 case rest =>
  clear HC2
  try clear p2
  try clear c3
  try clear rC
  try clear Ag
  try clear c4
  try clear wU
  try clear BK
  try clear c5
  try clear rZ
  try clear OD
  try clear p6
  try clear q6
  try clear hx6
  try clear qi6
  try clear p6
  try clear q6
  obtain ⟨kq,Uc,rfl,HA,Uj,⟨mc1,rfl⟩⟩:=hcut
  cases kq with
  | zero => exact absurd HA.out (by simp [cZ.j0])
  | succ TN =>
   have H:=HA.out
   clear HA
   simp only [cZ.j0] at H
   by_cases c8 : Uc = true
   ·subst c8
    have H1 : (some false) = some r:=by rw [if_pos rfl] at H; exact H
    clear H
    have H:=H1
    clear H1
    obtain rfl:=Option.some.inj H
    go_wp2
    go_ret
    exact ⟨by first | rfl | (simp; done) | (simp [*]; done),by repeat (first | exact aV.refl _ | apply aV.step)⟩
   ·replace c8:=Bool.eq_false_iff.mpr c8
    subst c8
    have H1 : (cZ.l0 TN a0 (a0.size : Int) 0) = some r:=by rw [if_neg (show ¬ (false = true) by decide)] at H; exact H
    clear H
    have H:=H1
    clear H1
    have H':=ah.mk H
    clear H
    go_wp2
    go_loopg [19] TN (fun kq v19 w' => ∃ (iq : Int),v19 = .int .i64 iq ∧ ah (cZ.l0 kq a0 (a0.size : Int) iq = some r) ∧ ah (kq ≤ TN) ∧ aV w w')
    case atStart => exact ⟨(0),(by first | rfl | (simp; done) | (simp [*]; done)),H',⟨Nat.le_refl _⟩,by repeat (first | exact aV.refl _ | apply aV.step)⟩
    case round =>
     clear H'
     try clear c1
     try clear p2
     try clear c3
     try clear rC
     try clear Ag
     try clear c4
     try clear wU
     try clear BK
     try clear c5
     try clear rZ
     try clear OD
     try clear p6
     try clear q6
     try clear hx6
     try clear qi6
     try clear c8
     try clear p2
     try clear p6
     try clear q6
     obtain ⟨iq,rfl,HA,FC,⟨m2,rfl⟩⟩:=hrel
     cases gk with
     | zero => exact absurd HA.out (by simp [cZ.l0])
     | succ k2 =>
      have H:=HA.out
      clear HA
      simp only [cZ.l0] at H
      by_cases c9 : iq < (a0.size : Int)
      ·rw [if_pos c9] at H
       have GZ : decide (iq < (a0.size : Int)) = true:=decide_eq_true c9
       clear c9
       by_cases c10 : 0 ≤ iq
       ·rw [if_pos c10] at H
        have ake : decide (0 ≤ iq) = true:=decide_eq_true c10
        clear c10
        by_cases c11 : iq < (a0.size : Int)
        ·rw [if_pos c11] at H
         have Dw : decide (iq < (a0.size : Int)) = true:=decide_eq_true c11
         clear c11
         replace H:=Option.bind_eq_some_iff.mp H
         obtain ⟨t105,Oh,H⟩:=H
         replace H : (if t105 = true then (cZ.l0 k2 a0 (a0.size : Int) (wrap64 (iq + 1))) else ((gW.f (bt a0 iq)).bind fun Gi => (if Gi = true then (cZ.l0 k2 a0 (a0.size : Int) (wrap64 (iq + 1))) else (some false)))) = some r:=H
         have A13:=ah.mk Oh
         clear Oh
         by_cases c14 : t105 = true
         ·subst c14
          have H1 : (cZ.l0 k2 a0 (a0.size : Int) (wrap64 (iq + 1))) = some r:=by rw [if_pos rfl] at H; exact H
          clear H
          have H:=H1
          clear H1
          have H':=ah.mk H
          clear H
          have p12 : 0 ≤ (iq : Int):=of_decide_eq_true (by first | (with_reducible assumption) | assumption)
          have q12 : iq < (a0.size : Int):=of_decide_eq_true (by first | (with_reducible assumption) | assumption)
          have afk:=Gm a0 iq
          replace p12:=eq_true p12
          replace q12:=eq_true q12
          go_wp2_with (first | ((with_reducible refine dn (f:=116) rfl ?_); refine goesL_ (some 25) rfl rfl Tryz.func116 (by kernel_rfl) rfl #[.int .u8 (bt a0 iq)] rfl (by (try simp only [List.map_toArray,List.map_cons,List.map_nil]); first | done | rfl | (simp only [List.length_drop,List.length_take]; rfl)) ?_; (with_reducible refine (gU.calls (bt a0 iq) true _ A13.out).mono ?_); rintro e w' ⟨rfl,⟨nd,rfl⟩⟩; refine ⟨_,rfl,?_⟩))
          go_roundg k2
          case measure => have:=Uj.out; have:=FC.out; omega
          case rel => exact ⟨(wrap64 (iq + 1)),(by first | rfl | (simp; done) | (simp [*]; done)),H',⟨by have:=Uj.out; have:=FC.out; omega⟩,by repeat (first | exact aV.refl _ | apply aV.step)⟩
         ·replace c14:=Bool.eq_false_iff.mpr c14
          subst c14
          have H1 : ((gW.f (bt a0 iq)).bind fun Gi => (if Gi = true then (cZ.l0 k2 a0 (a0.size : Int) (wrap64 (iq + 1))) else (some false))) = some r:=by rw [if_neg (show ¬ (false = true) by decide)] at H; exact H
          clear H
          have H:=H1
          clear H1
          replace H:=Option.bind_eq_some_iff.mp H
          obtain ⟨Gi,adS,H⟩:=H
          replace H : (if Gi = true then (cZ.l0 k2 a0 (a0.size : Int) (wrap64 (iq + 1))) else (some false)) = some r:=H
          have A16:=ah.mk adS
          clear adS
          by_cases c17 : Gi = true
          ·subst c17
           have H1 : (cZ.l0 k2 a0 (a0.size : Int) (wrap64 (iq + 1))) = some r:=by rw [if_pos rfl] at H; exact H
           clear H
           have H:=H1
           clear H1
           have H':=ah.mk H
           clear H
           have p12 : 0 ≤ (iq : Int):=of_decide_eq_true (by first | (with_reducible assumption) | assumption)
           have q12 : iq < (a0.size : Int):=of_decide_eq_true (by first | (with_reducible assumption) | assumption)
           have afk:=Gm a0 iq
           replace p12:=eq_true p12
           replace q12:=eq_true q12
           go_wp2_with (first | ((with_reducible refine dn (f:=116) rfl ?_); refine goesL_ (some 25) rfl rfl Tryz.func116 (by kernel_rfl) rfl #[.int .u8 (bt a0 iq)] rfl (by (try simp only [List.map_toArray,List.map_cons,List.map_nil]); first | done | rfl | (simp only [List.length_drop,List.length_take]; rfl)) ?_; (with_reducible refine (gU.calls (bt a0 iq) false _ A13.out).mono ?_); rintro e w' ⟨rfl,⟨nd,rfl⟩⟩; refine ⟨_,rfl,?_⟩; have p15 : 0 ≤ (iq : Int):=of_decide_eq_true (by first | (with_reducible assumption) | assumption); have q15 : iq < (a0.size : Int):=of_decide_eq_true (by first | (with_reducible assumption) | assumption); have ai9:=Gm a0 iq; replace p15:=eq_true p15; replace q15:=eq_true q15) | (go_at_call 117; (with_reducible refine (gW.calls (bt a0 iq) true _ A16.out).mono ?_); rintro e w' ⟨rfl,⟨nd,rfl⟩⟩))
           go_roundg k2
           case measure => have:=Uj.out; have:=FC.out; omega
           case rel => exact ⟨(wrap64 (iq + 1)),(by first | rfl | (simp; done) | (simp [*]; done)),H',⟨by have:=Uj.out; have:=FC.out; omega⟩,by repeat (first | exact aV.refl _ | apply aV.step)⟩
          ·replace c17:=Bool.eq_false_iff.mpr c17
           subst c17
           have H1 : (some false) = some r:=by rw [if_neg (show ¬ (false = true) by decide)] at H; exact H
           clear H
           have H:=H1
           clear H1
           obtain rfl:=Option.some.inj H
           have p12 : 0 ≤ (iq : Int):=of_decide_eq_true (by first | (with_reducible assumption) | assumption)
           have q12 : iq < (a0.size : Int):=of_decide_eq_true (by first | (with_reducible assumption) | assumption)
           have afk:=Gm a0 iq
           replace p12:=eq_true p12
           replace q12:=eq_true q12
           go_wp2_with (first | ((with_reducible refine dn (f:=116) rfl ?_); refine goesL_ (some 25) rfl rfl Tryz.func116 (by kernel_rfl) rfl #[.int .u8 (bt a0 iq)] rfl (by (try simp only [List.map_toArray,List.map_cons,List.map_nil]); first | done | rfl | (simp only [List.length_drop,List.length_take]; rfl)) ?_; (with_reducible refine (gU.calls (bt a0 iq) false _ A13.out).mono ?_); rintro e w' ⟨rfl,⟨nd,rfl⟩⟩; refine ⟨_,rfl,?_⟩; have p15 : 0 ≤ (iq : Int):=of_decide_eq_true (by first | (with_reducible assumption) | assumption); have q15 : iq < (a0.size : Int):=of_decide_eq_true (by first | (with_reducible assumption) | assumption); have ai9:=Gm a0 iq; replace p15:=eq_true p15; replace q15:=eq_true q15) | (go_at_call 117; (with_reducible refine (gW.calls (bt a0 iq) false _ A16.out).mono ?_); rintro e w' ⟨rfl,⟨nd,rfl⟩⟩))
           go_ret
           exact ⟨by first | rfl | (simp; done) | (simp [*]; done),by repeat (first | exact aV.refl _ | apply aV.step)⟩
        ·rw [if_neg c11] at H
         exact absurd H (by simp)
       ·rw [if_neg c10] at H
        exact absurd H (by simp)
      ·rw [if_neg c9] at H
       have GZ : decide (iq < (a0.size : Int)) = false:=decide_eq_false c9
       clear c9
       obtain rfl:=Option.some.inj H
       go_wp2
       go_ret
       exact ⟨by first | rfl | (simp; done) | (simp [*]; done),by repeat (first | exact aV.refl _ | apply aV.step)⟩
end Go.Proofs.YtdbpglhdicmhhaaGreatDoor.GA
end

section
namespace Go.Proofs.YtdbpglhdicmhhaaGreatDoor.GA
open Go.RowKit Go.Proofs.YtdbpglhdicmhhaaGreatDoorW.aI Go.Proofs.YtdbpglhdicmhhaaGreatDoorW.aX Go.Proofs.YtdbpglhdicmhhaaGreatDoorW.aZ
def dS.l0 : Nat → ByteArray → Int → Int → Option (Bool)
 | 0,_,_,_ => none
 | k + 1,x0,x5,x6 => if x6 < x5 then (if 0 ≤ x6 then (if x6 < (x0.size : Int) then ((gW.f (bt x0 x6)).bind fun t107 => (if t107 = true then (dS.l0 k x0 x5 (wrap64 (x6 + 1))) else (some false))) else (none)) else (none)) else (some (x0.toList != ([] : List UInt8)))
def dS.f (k : Nat) (a0 : ByteArray) : Option (Bool):=dS.l0 k a0 (a0.size : Int) 0
theorem dS.calls (k : Nat) (a0 : ByteArray) (r : Bool) (w : World) (h : dS.f k a0 = some r) :
  Calls Tryz.prog 120 #[.string a0] w fun e w' => e = .returned (.bool r) ∧ aV w w':=by
 have H : (dS.l0 k a0 (a0.size : Int) 0) = some r:=h
 clear h
 have H':=ah.mk H
 clear H
 go_enter Tryz.func120,Tryz.ntmps120
 go_wp2
 go_loopg [6] k (fun kq v6 w' => ∃ (zK : Int),v6 = .int .i64 zK ∧ ah (dS.l0 kq a0 (a0.size : Int) zK = some r) ∧ ah (kq ≤ k) ∧ aV w w')
 case atStart => exact ⟨(0),(by first | rfl | (simp; done) | (simp [*]; done)),H',⟨Nat.le_refl _⟩,by repeat (first | exact aV.refl _ | apply aV.step)⟩
 case round =>
  clear H'
  try clear c1
  obtain ⟨zK,rfl,HA,D9,⟨m1,rfl⟩⟩:=hrel
  cases gk with
  | zero => exact absurd HA.out (by simp [dS.l0])
  | succ k1 =>
   have H:=HA.out
   clear HA
   simp only [dS.l0] at H
   by_cases c2 : zK < (a0.size : Int)
   ·rw [if_pos c2] at H
    have DT : decide (zK < (a0.size : Int)) = true:=decide_eq_true c2
    clear c2
    by_cases c3 : 0 ≤ zK
    ·rw [if_pos c3] at H
     have rC : decide (0 ≤ zK) = true:=decide_eq_true c3
     clear c3
     by_cases c4 : zK < (a0.size : Int)
     ·rw [if_pos c4] at H
      have wU : decide (zK < (a0.size : Int)) = true:=decide_eq_true c4
      clear c4
      replace H:=Option.bind_eq_some_iff.mp H
      obtain ⟨t107,A60,H⟩:=H
      replace H : (if t107 = true then (dS.l0 k1 a0 (a0.size : Int) (wrap64 (zK + 1))) else (some false)) = some r:=H
      have A6:=ah.mk A60
      clear A60
      by_cases c7 : t107 = true
      ·subst c7
       have H1 : (dS.l0 k1 a0 (a0.size : Int) (wrap64 (zK + 1))) = some r:=by rw [if_pos rfl] at H; exact H
       clear H
       have H:=H1
       clear H1
       have H':=ah.mk H
       clear H
       have p5 : 0 ≤ (zK : Int):=of_decide_eq_true (by first | (with_reducible assumption) | assumption)
       have q5 : zK < (a0.size : Int):=of_decide_eq_true (by first | (with_reducible assumption) | assumption)
       have hx5:=Gm a0 zK
       replace p5:=eq_true p5
       replace q5:=eq_true q5
       go_wp2_with (first | ((with_reducible refine dn (f:=117) rfl ?_); refine goesL_ (some 12) rfl rfl Tryz.func117 (by kernel_rfl) rfl #[.int .u8 (bt a0 zK)] rfl (by (try simp only [List.map_toArray,List.map_cons,List.map_nil]); first | done | rfl | (simp only [List.length_drop,List.length_take]; rfl)) ?_; (with_reducible refine (gW.calls (bt a0 zK) true _ A6.out).mono ?_); rintro e w' ⟨rfl,⟨nd,rfl⟩⟩; refine ⟨_,rfl,?_⟩))
       go_roundg k1
       case measure => have:=D9.out; omega
       case rel => exact ⟨(wrap64 (zK + 1)),(by first | rfl | (simp; done) | (simp [*]; done)),H',⟨by have:=D9.out; omega⟩,by repeat (first | exact aV.refl _ | apply aV.step)⟩
      ·replace c7:=Bool.eq_false_iff.mpr c7
       subst c7
       have H1 : (some false) = some r:=by rw [if_neg (show ¬ (false = true) by decide)] at H; exact H
       clear H
       have H:=H1
       clear H1
       obtain rfl:=Option.some.inj H
       have p5 : 0 ≤ (zK : Int):=of_decide_eq_true (by first | (with_reducible assumption) | assumption)
       have q5 : zK < (a0.size : Int):=of_decide_eq_true (by first | (with_reducible assumption) | assumption)
       have hx5:=Gm a0 zK
       replace p5:=eq_true p5
       replace q5:=eq_true q5
       go_wp2_with (first | ((with_reducible refine dn (f:=117) rfl ?_); refine goesL_ (some 12) rfl rfl Tryz.func117 (by kernel_rfl) rfl #[.int .u8 (bt a0 zK)] rfl (by (try simp only [List.map_toArray,List.map_cons,List.map_nil]); first | done | rfl | (simp only [List.length_drop,List.length_take]; rfl)) ?_; (with_reducible refine (gW.calls (bt a0 zK) false _ A6.out).mono ?_); rintro e w' ⟨rfl,⟨nd,rfl⟩⟩; refine ⟨_,rfl,?_⟩))
       go_ret
       exact ⟨by first | rfl | (simp; done) | (simp [*]; done),by repeat (first | exact aV.refl _ | apply aV.step)⟩
     ·rw [if_neg c4] at H
      exact absurd H (by simp)
    ·rw [if_neg c3] at H
     exact absurd H (by simp)
   ·rw [if_neg c2] at H
    have DT : decide (zK < (a0.size : Int)) = false:=decide_eq_false c2
    clear c2
    obtain rfl:=Option.some.inj H
    go_wp2
    go_ret
    exact ⟨by first | rfl | (simp; done) | (cases hq0 : a0.toList <;> simp [hq0,List.isEmpty]; done),by repeat (first | exact aV.refl _ | apply aV.step)⟩
end Go.Proofs.YtdbpglhdicmhhaaGreatDoor.GA
end
