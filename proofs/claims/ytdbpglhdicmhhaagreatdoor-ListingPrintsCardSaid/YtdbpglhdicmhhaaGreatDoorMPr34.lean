import Derived.Test.YtdbpglhdicmhhaaGreatDoorMPr4
import Derived.Test.YtdbpglhdicmhhaaGreatDoorMPr33
import Derived.Test.YtdbpglhdicmhhaaGreatDoorMPr16
import Derived.Test.YtdbpglhdicmhhaaGreatDoorMPr17
import Derived.Lib.AppendIntMem
import Derived.Test.YtdbpglhdicmhhaaGreatDoorMPr22
set_option maxHeartbeats 8000000
set_option maxRecDepth 100000
set_option linter.unusedVariables false
set_option linter.unusedSimpArgs false
section
namespace Go.Proofs.YtdbpglhdicmhhaaGreatDoor.GA
open Go.RowKit Go.Proofs.YtdbpglhdicmhhaaGreatDoorW.aI Go.Proofs.YtdbpglhdicmhhaaGreatDoorW.aX Go.Proofs.YtdbpglhdicmhhaaGreatDoorW.aZ
def dZ.l0 : Nat → Int → Int → List Int → List (jw) → List (qB) → Option (Bool)
 | 0,_,_,_,_,_ => none
 | k + 1,x3,x4,aao,aap,NZ => if x4 < (NZ.length : Int) then (if x3 ≤ 262144 then (if 0 ≤ x4 then (dZ.l0 k (wrap64 (x3 + (((rX NZ x4).f0).length : Int))) (wrap64 (x4 + 1)) aao aap NZ) else (none)) else (some (decide (x3 > 262144)))) else (some (decide (x3 > 262144)))
def dZ.f (k : Nat) (dK : List Int) (fK : List (jw)) (eP : List (qB)) : Option (Bool):=dZ.l0 k (wrap64 ((dK.length : Int) + (eP.length : Int))) 0 dK fK eP
theorem dZ.calls (k : Nat) (wS : Option Addr) (iY : Nat) (dK : List Int) (iV : Option Addr) (iZ : Nat) (fK : List (jw)) (iW : Option Addr) (jc : Nat) (eP : List (qB)) (r : Bool) (w : World) (Gx : Kd.C (Kd.int .u32) w wS dK.length dK) (Gu : dK.length ≤ iY) (Gy : Kd.C Xj w iV fK.length fK) (Gv : fK.length ≤ iZ) (Gz : Kd.C Xl w iW eP.length eP) (Gw : eP.length ≤ jc) (h : dZ.f k dK fK eP = some r) :
  Calls Tryz.prog 16 #[.agg #[.slice wS dK.length iY,.slice iV fK.length iZ,.slice iW eP.length jc]] w fun e w' => e = .returned (.bool r) ∧ Below w.heap.size w w':=by
 have afj:=Tryz.underlying26
 have J3:=ah.mk Gx
 have aau:=ah.mk Gu
 clear Gx Gu
 have aay:=ah.mk Gy
 have aav:=ah.mk Gv
 clear Gy Gv
 have VB:=ah.mk Gz
 have aaw:=ah.mk Gw
 clear Gz Gw
 have HB:=ah.mk (Below.refl w.heap.size w)
 have H : (dZ.l0 k (wrap64 ((dK.length : Int) + (eP.length : Int))) 0 dK fK eP) = some r:=h
 clear h
 have H':=ah.mk H
 clear H
 go_enter Tryz.func16,Tryz.ntmps16
 go_wp2_with (first | ((with_reducible refine bI (N:=1) rfl ?_); refine dV ?hg (N:=1) ?hd (cs:=#[.slice wS dK.length iY,.slice iV fK.length iZ,.slice iW eP.length jc]) (t:=26) ?hr ?_; (case hd => rfl); (case hg => rfl); (case hr => first | (go_simp; done) | (go_simp; rfl)); intro xM hg w2 hbox hb; have n0_:=ah.mk (bP (by repeat (first | (with_reducible first | exact HB.out | apply ak | apply aj | apply ay) | exact HB.out)) hb); have n1_:=ah.mk (hbox); have n2_:=ah.mk ((by rw [hg]; exact (bV (by repeat (first | (with_reducible first | exact HB.out | apply ak | apply aj | apply ay) | exact HB.out))) : w.heap.size ≤ xM)); have n3_:=ah.mk ((by rw [hg]; exact (bV (by repeat (first | (with_reducible first | exact HB.out | apply ak | apply aj | apply ay) | exact HB.out))) : w.heap.size ≤ xM)); clear HB; have HB:=n0_; have qL:=n1_; have ajM:=n2_; have RS:=n3_; clear n0_ n1_ n2_ n3_; clear hb hbox hg; have ach : w2.cell? ⟨xM,0,none⟩ = some (.slice wS dK.length iY):=(aA qL.out 0).trans rfl; have aci : w2.cell? ⟨xM,1,none⟩ = some (.slice iV fK.length iZ):=(aA qL.out 1).trans rfl; have acj : w2.cell? ⟨xM,2,none⟩ = some (.slice iW eP.length jc):=(aA qL.out 2).trans rfl; have acA:=au qL.out 0; have acB:=au qL.out 1; have acC:=au qL.out 2))
 go_loopg [3,4] k (fun kq v3 v4 w' => ∃ (RN : Int) (jE : Int),v3 = .int .i64 RN ∧ v4 = .int .i64 jE ∧ ah (dZ.l0 kq RN jE dK fK eP = some r) ∧ ah (kq ≤ k) ∧ ah (w'.heap[xM]? = some (.cells #[(.slice wS dK.length iY),(.slice iV fK.length iZ),(.slice iW eP.length jc)] 26 (0,0))) ∧ ah (Below w.heap.size w w'))
 case atStart => exact ⟨(wrap64 ((dK.length : Int) + (eP.length : Int))),(0),(by first | rfl | (simp; done) | (simp [*]; done)),(by first | rfl | (simp; done) | (simp [*]; done)),H',⟨Nat.le_refl _⟩,⟨by (with_reducible repeat (first | refine aG ?_ _ | refine aQ ?_ | refine aC ?_ _)); exact qL.out⟩,⟨by repeat (first | (with_reducible first | exact HB.out | apply ak | apply aj | apply ay | refine aN ?_ RS.out) | exact HB.out)⟩⟩
 case round =>
  clear H'
  try clear c1
  try clear p2
  try clear ach
  try clear aci
  try clear acj
  try clear acA
  try clear acB
  try clear acC
  obtain ⟨RN,jE,rfl,rfl,HA,D9,qL,HB⟩:=hrel
  cases gk with
  | zero => exact absurd HA.out (by simp [dZ.l0])
  | succ k1 =>
   have H:=HA.out
   clear HA
   simp only [dZ.l0] at H
   by_cases c4 : jE < (eP.length : Int)
   ·rw [if_pos c4] at H
    have wU : decide (jE < (eP.length : Int)) = true:=decide_eq_true c4
    clear c4
    by_cases c5 : RN ≤ 262144
    ·rw [if_pos c5] at H
     have rZ : decide (RN ≤ 262144) = true:=decide_eq_true c5
     clear c5
     by_cases c6 : 0 ≤ jE
     ·rw [if_pos c6] at H
      have GY : decide (0 ≤ jE) = true:=decide_eq_true c6
      clear c6
      have H':=ah.mk H
      clear H
      have LY : wr.cell? ⟨xM,0,none⟩ = some (.slice wS dK.length iY):=(aA qL.out 0).trans rfl
      have LZ : wr.cell? ⟨xM,1,none⟩ = some (.slice iV fK.length iZ):=(aA qL.out 1).trans rfl
      have L6 : wr.cell? ⟨xM,2,none⟩ = some (.slice iW eP.length jc):=(aA qL.out 2).trans rfl
      have Na:=au qL.out 0
      have Nb:=au qL.out 1
      have Nc:=au qL.out 2
      have adb : 0 ≤ (jE : Int):=of_decide_eq_true (by first | (with_reducible assumption) | assumption)
      have adl : jE < (eP.length : Int):=of_decide_eq_true (by first | (with_reducible assumption) | assumption)
      obtain ⟨akd,ahO,aiJ,aiO,Nl,Np,TI,TG⟩:=IC VB.out jE adb adl
      cases aiO
      replace Nl:=(HB.out.cell (World.block_lt_of_cell? w _ Nl)).trans Nl
      replace Np:=(HB.out.cell (World.block_lt_of_cell? w _ Np)).trans Np
      have af6:=ah.mk TG
      have afX:=ah.mk TI
      clear TG TI
      replace adb:=eq_true adb
      replace adl:=eq_true adl
      go_wp2
      go_roundg k1
      case measure => have:=D9.out; omega
      case rel => exact ⟨(wrap64 (RN + (((rX eP jE).f0).length : Int))),(wrap64 (jE + 1)),(by first | rfl | (simp; done) | (simp [*]; done)),(by first | rfl | (simp; done) | (simp [*]; done)),H',⟨by have:=D9.out; omega⟩,⟨by (with_reducible repeat (first | refine aG ?_ _ | refine aQ ?_ | refine aC ?_ _)); exact qL.out⟩,⟨by repeat (first | (with_reducible first | exact HB.out | apply ak | apply aj | apply ay | refine aN ?_ RS.out) | exact HB.out)⟩⟩
     ·rw [if_neg c6] at H
      exact absurd H (by simp)
    ·rw [if_neg c5] at H
     have rZ : decide (RN ≤ 262144) = false:=decide_eq_false c5
     clear c5
     obtain rfl:=Option.some.inj H
     have aiV : wr.cell? ⟨xM,0,none⟩ = some (.slice wS dK.length iY):=(aA qL.out 0).trans rfl
     have aiW : wr.cell? ⟨xM,1,none⟩ = some (.slice iV fK.length iZ):=(aA qL.out 1).trans rfl
     have aiX : wr.cell? ⟨xM,2,none⟩ = some (.slice iW eP.length jc):=(aA qL.out 2).trans rfl
     have aiZ:=au qL.out 0
     have ai0:=au qL.out 1
     have ai1:=au qL.out 2
     go_wp2
     go_ret
     exact ⟨by first | rfl | (simp [bZ,cO] <;> rfl) | (simp [*,bZ,cO] <;> rfl),by repeat (first | (with_reducible first | exact HB.out | apply ak | apply aj | apply ay | refine aN ?_ RS.out) | exact HB.out)⟩
   ·rw [if_neg c4] at H
    have wU : decide (jE < (eP.length : Int)) = false:=decide_eq_false c4
    clear c4
    obtain rfl:=Option.some.inj H
    have WB : wr.cell? ⟨xM,0,none⟩ = some (.slice wS dK.length iY):=(aA qL.out 0).trans rfl
    have WC : wr.cell? ⟨xM,1,none⟩ = some (.slice iV fK.length iZ):=(aA qL.out 1).trans rfl
    have WE : wr.cell? ⟨xM,2,none⟩ = some (.slice iW eP.length jc):=(aA qL.out 2).trans rfl
    have WL:=au qL.out 0
    have WM:=au qL.out 1
    have WO:=au qL.out 2
    go_wp2
    go_ret
    exact ⟨by first | rfl | (simp [bZ,cO] <;> rfl) | (simp [*,bZ,cO] <;> rfl),by repeat (first | (with_reducible first | exact HB.out | apply ak | apply aj | apply ay | refine aN ?_ RS.out) | exact HB.out)⟩
end Go.Proofs.YtdbpglhdicmhhaaGreatDoor.GA
end

section
namespace Go.Proofs.YtdbpglhdicmhhaaGreatDoor.Q
open Go.RowKit Go.Lib Num Go.Proofs.YtdbpglhdicmhhaaGreatDoor.GA Go.Proofs.YtdbpglhdicmhhaaGreatDoor.rQ Go.Proofs.YtdbpglhdicmhhaaGreatDoor.qp
def I64 (n : Int) : Prop:=-9223372036854775808 ≤ n ∧ n ≤ 9223372036854775807
def RQ (c : JG) : Prop:=I64 c.f1 ∧ I64 c.f2 ∧ I64 c.f3
def sN (l : List qB) : Nat:=(l.map fun t => t.f0.length).sum
theorem IQ {t : qB} : ∀ {l : List qB},t ∈ l → t.f0.length ≤ sN l
 | x :: l,h => by
  have e : sN (x :: l) = x.f0.length + sN l:=by unfold sN; rw [List.map_cons,List.sum_cons]
  rcases List.mem_cons.1 h with rfl | h
  ·omega
  ·have:=IQ h; omega
theorem NQ {n : Int} (h : I64 n) : (tu n).length ≤ 23:=by
 have:=vT n h.1 h.2
 unfold tu
 simp only [List.length_append,List.length_cons,List.length_nil]; omega
theorem OG : ∀ (l : List JG),(∀ c ∈ l,RQ c) → (qU l).length ≤ 80 * l.length
 | [],_ => Nat.le_refl _
 | c :: l,h => by
  have ih:=OG l (fun x hx => h x (List.mem_cons_of_mem _ hx))
  obtain ⟨h1,h2,h3⟩:=h c List.mem_cons_self
  have e1:=NQ h1
  have e2:=NQ h2
  have e3:=NQ h3
  have : qU (c :: l) = AU c ++ [10] ++ qU l:=by unfold qU; rw [List.flatMap_cons]
  rw [this]
  unfold AU OE
  cases c.f0 <;> simp only [List.flatMap_cons,List.flatMap_nil,List.length_append,List.length_cons,List.length_nil,if_true,Bool.false_eq_true,if_false] <;> omega
theorem TY : ∀ (l : List qB) (i : Nat),(∀ t ∈ l,∀ c ∈ t.f0,RQ c) → i + l.length ≤ 1099511627776 → (ig i l).length ≤ 60 * l.length + 80 * sN l
 | [],i,_,_ => Nat.zero_le _
 | t :: l,i,h,hb => by
  rw [List.length_cons] at hb ⊢
  have ih:=TY l (i + 1) (fun x hx => h x (List.mem_cons_of_mem _ hx)) (by omega)
  have hc:=OG t.f0 (h t List.mem_cons_self)
  have hi:=vT (i : Int) (by omega) (by omega)
  have hs : sN (t :: l) = t.f0.length + sN l:=by unfold sN; rw [List.map_cons,List.sum_cons]
  rw [ig,hs]
  unfold X6
  simp only [List.length_append,List.length_cons,List.length_nil]
  have : (if t.f1 = true then ([32,100,101,102,97,117,108,116] : List UInt8) else []).length ≤ 8:=by split <;> simp
  omega
theorem YP {w : Int} (h0 : 0 ≤ w) (h1 : w < 4294967296) : (AZ w - 1).toNat < 58 ∧ uZ (su w).2.1 ∧ uZ (su w).2.2.1 ∧ uZ (su w).2.2.2.1 ∧ uZ (uz w):=by
 have z : uZ 0:=⟨by decide,by decide⟩
 rcases Xh (w / 16777216) with ⟨j,hj,ho⟩ | hn
 ·have h:=CG j hj w h0 h1 ho
  by_cases hf : jA (dA w) (dB w) (dC w (dH.rowAt j).2.1) (dM w (dH.rowAt j).2.1) (dH.rowAt j).2.1 = true
  ·rw [if_pos hf] at h
   obtain ⟨b1,b2,b3,b4,b5,b6,_,b7,b8⟩:=SY hf
   have hd : su w = ((j : Int) + 1,dA w,dB w,dC w (dH.rowAt j).2.1,dM w (dH.rowAt j).2.1,0):=by unfold su; rw [h]; rfl
   unfold AZ uz
   rw [hd]
   exact ⟨by show ((j : Int) + 1 - 1).toNat < 58; omega,⟨by show -100000 < dA w; omega,by show dA w < 100000; omega⟩,⟨by show -100000 < dB w; omega,by show dB w < 100000; omega⟩,⟨by show -100000 < dC w _; omega,by show dC w _ < 100000; omega⟩,⟨by show -100000 < dM w _; omega,by show dM w _ < 100000; omega⟩⟩
  ·rw [if_neg hf] at h
   have hd : su w = (0,0,0,0,0,61):=by unfold su; rw [h]; rfl
   unfold AZ uz
   rw [hd]
   exact ⟨by decide,z,z,z,z⟩
 ·have hd : su w = (0,0,0,0,0,60):=by unfold su; rw [BP w h0 h1 hn]; rfl
  unfold AZ uz
  rw [hd]
  exact ⟨by decide,z,z,z,z⟩
theorem ZU {w : Int} (h0 : 0 ≤ w) (h1 : w < 4294967296) : (sZ w).length ≤ 200:=by
 obtain ⟨hk,fa,fb,fc,fm⟩:=YP h0 h1
 have la:=jL fa
 have lb:=jL fb
 have lc:=jL fc
 have lm:=jL fm
 have ln:=DX hk
 have lp:=Jg ((((AZ w - 1).toNat : Nat) : Int) + 1)
 unfold sZ Jc
 have h3 : ∀ n,((([(su w).2.1,(su w).2.2.1,(su w).2.2.2.1] : List Int).take n).flatMap tu).length ≤ 30:=fun n => by
  unfold tu
  match n with
  | 0 => simp
  | 1 => simp; omega
  | 2 => simp; omega
  | n + 3 => simp; omega
 have h4 : ∀ b,(FY b ((((AZ w - 1).toNat : Nat) : Int) + 1) (uz w)).length ≤ 20:=fun b => by
  unfold FY
  cases b
  ·simp
  ·simp only [if_true,List.length_append,List.length_cons,List.length_nil]; omega
 rw [List.length_append,List.length_append]
 have:=h3 (if (dH.rowAt (AZ w - 1).toNat).2.1 = 1 ∨ (dH.rowAt (AZ w - 1).toNat).2.1 = 5 ∨ (dH.rowAt (AZ w - 1).toNat).2.1 = 6 then 1 else if (dH.rowAt (AZ w - 1).toNat).2.1 = 2 then 2 else if (dH.rowAt (AZ w - 1).toNat).2.1 = 3 then 3 else 0)
 have:=h4 (decide ((dH.rowAt (AZ w - 1).toNat).2.1 = 4 ∨ (dH.rowAt (AZ w - 1).toNat).2.1 = 5 ∨ (dH.rowAt (AZ w - 1).toNat).2.1 = 6))
 omega
theorem SN (tg : Int → Bool) : ∀ (r : List Int) (at_ : Int),(∀ w ∈ r,0 ≤ w ∧ w < 4294967296) → 0 ≤ at_ → at_ + r.length ≤ 1099511627776 → (sH tg at_ r).length ≤ 240 * r.length
 | [],_,_,_,_ => Nat.le_refl _
 | w :: r,at_,h,h0,hb => by
  rw [List.length_cons] at hb ⊢
  have ih:=SN tg r (at_ + 1) (fun x hx => h x (List.mem_cons_of_mem _ hx)) (by omega) (by omega)
  have hl:=ZU (h w List.mem_cons_self).1 (h w List.mem_cons_self).2
  have hi:=vT at_ (by omega) (by omega)
  rw [sH]
  have : (if tg at_ = true then [76] ++ itoa at_ ++ [58,10] else []).length ≤ 24:=by
   split
   ·simp only [List.length_append,List.length_cons,List.length_nil]; omega
   ·simp
  simp only [List.length_append,List.length_cons,List.length_nil] at this ⊢
  omega
theorem OX (tg : Int → Bool) (l0 : List Int) (hw : ∀ x ∈ l0,0 ≤ x ∧ x < 4294967296) (hl : l0.length ≤ 549755813888) : ∀ (fs : List jw) (i : Nat) (at_ : Int),dG l0.length at_ fs = true → 0 ≤ at_ → i ≤ 549755813888 → at_ ≤ l0.length → i ≤ at_ → ((gq tg l0 i fs).length : Int) ≤ 300 * (l0.length - at_)
 | [],i,at_,_,_,_,h,_ => by show (0 : Int) ≤ _; omega
 | f :: fs,i,at_,hp,h0,hi,_,hia => by
  rw [dG] at hp
  simp only [Bool.and_eq_true,decide_eq_true_eq] at hp
  obtain ⟨⟨⟨p0,p1⟩,p2⟩,p3⟩:=hp
  have ih:=OX tg l0 hw hl fs (i + 1) f.f1 p3 (by omega) (by omega) p2 (by omega)
  have hwl : (wordsOf l0 f).length = (f.f1 - f.f0).toNat:=xE (by omega) (by omega) p2
  have hc:=SN tg (wordsOf l0 f) f.f0 (fun x hx => hw x (by unfold wordsOf at hx; exact List.mem_of_mem_drop (List.mem_of_mem_take hx))) (by omega) (by rw [hwl]; omega)
  have hit:=vT (i : Int) (by omega) (by omega)
  rw [gq]
  unfold OW
  simp only [List.length_append,List.length_cons,List.length_nil]
  rw [hwl] at hc
  omega
theorem aaf {l0 : List Int} {l1 : List jw} {l2 : List qB} (hw : ∀ x ∈ l0,0 ≤ x ∧ x < 4294967296) (hc : ∀ t ∈ l2,∀ c ∈ t.f0,RQ c) (hn : l0.length + l2.length + sN l2 ≤ 2147483648) :
  (ig 0 l2).length ≤ 1099511627776 ∧ (gX l0 l1 = true → ∀ tg,(ig 0 l2 ++ gq tg l0 0 l1).length ≤ 1099511627776):=by
 have h1:=TY l2 0 hc (by omega)
 refine ⟨by omega,fun hp tg => ?_⟩
 unfold gX at hp
 rw [Bool.and_eq_true] at hp
 have h2:=OX tg l0 hw (by omega) l1 0 0 hp.1 (Int.le_refl _) (by omega) (by omega) (by omega)
 rw [List.length_append]
 omega
theorem TQ (l0 : List Int) (l1 : List jw) (l2 : List qB) (h2 : l2.length ≤ 4398046511104) (h3 : ∀ t ∈ l2,t.f0.length ≤ 4398046511104) : ∀ (r : List qB) (i : Nat) (x : Int),l2.drop i = r → i ≤ l2.length → 0 ≤ x → x < 70368744177664 → ∃ b,dZ.l0 (r.length + 1) x (i : Int) l0 l1 l2 = some b ∧ (b = false → x + (sN r : Int) ≤ 262144)
 | [],i,x,hd,hi,h0,h1 => by
  have : l2.length ≤ i:=by
   have:=congrArg List.length hd; rw [List.length_drop,List.length_nil] at this; omega
  rw [List.length_nil,dZ.l0,if_neg (by omega)]
  refine ⟨_,rfl,fun hb => ?_⟩
  have:=of_decide_eq_false hb
  show x + ((0 : Nat) : Int) ≤ _
  omega
 | t :: r,i,x,hd,hi,h0,h1 => by
  have hil : i < l2.length:=by
   have:=congrArg List.length hd; rw [List.length_drop,List.length_cons] at this; omega
  have ht : l2[i]? = some t:=by
   have:=congrArg (fun l => l[0]?) hd
   simpa using this
  have hd2 : l2.drop (i + 1) = r:=by
   have:=congrArg List.tail hd
   simpa using this
  have hrd : rX l2 (i : Int) = t:=by unfold rX; rw [Int.toNat_natCast,List.getD_eq_getElem?_getD,ht]; rfl
  have htl:=h3 t (List.mem_of_getElem? ht)
  rw [List.length_cons,dZ.l0,if_pos (by omega)]
  by_cases hx : x ≤ 262144
  ·rw [if_pos hx,if_pos (by omega),hrd]
   have e1 : wrap64 (x + (t.f0.length : Int)) = x + (t.f0.length : Int):=by unfold wrap64; omega
   have e2 : wrap64 ((i : Int) + 1) = ((i + 1 : Nat) : Int):=by unfold wrap64; omega
   rw [e1,e2]
   obtain ⟨b,hb,hf⟩:=TQ l0 l1 l2 h2 h3 r (i + 1) (x + t.f0.length) hd2 hil (by omega) (by omega)
   refine ⟨b,hb,fun h => ?_⟩
   have:=hf h
   have hs : sN (t :: r) = t.f0.length + sN r:=by unfold sN; rw [List.map_cons,List.sum_cons]
   rw [hs]; omega
  ·rw [if_neg hx]
   refine ⟨_,rfl,fun hb => ?_⟩
   have:=of_decide_eq_false hb
   omega
def YB (b : Bool) (n : Nat) : Prop:=b = false → n ≤ 262144
theorem Xw {l0 : List Int} {l1 : List jw} {l2 : List qB} (h0 : l0.length ≤ 35184372088832) (h2 : l2.length ≤ 4398046511104) (h3 : ∀ t ∈ l2,t.f0.length ≤ 4398046511104) : ∃ k b,dZ.f k l0 l1 l2 = some b ∧ YB b (l0.length + l2.length + sN l2):=by
 obtain ⟨b,hb,hf⟩:=TQ l0 l1 l2 h2 h3 l2 0 ((l0.length : Int) + (l2.length : Int)) rfl (Nat.zero_le _) (by omega) (by omega)
 refine ⟨l2.length + 1,b,?_,fun h => by have:=hf h; omega⟩
 unfold dZ.f
 rw [show wrap64 ((l0.length : Int) + (l2.length : Int)) = (l0.length : Int) + (l2.length : Int) by unfold wrap64; omega]
 exact hb
end Go.Proofs.YtdbpglhdicmhhaaGreatDoor.Q
end

section
namespace Go.Proofs.YtdbpglhdicmhhaaGreatDoor.GA
open Go.RowKit Go.Proofs.YtdbpglhdicmhhaaGreatDoorW.aI Go.Proofs.YtdbpglhdicmhhaaGreatDoorW.aX Go.Proofs.YtdbpglhdicmhhaaGreatDoorW.aZ
abbrev bx : ByteArray:=⟨#[101,120,105,116]⟩
abbrev be : ByteArray:=⟨#[]⟩
theorem QF (w : World) : Calls Tryz.prog 79 #[.agg #[.int .i64 24,.int .i64 0,.int .i64 0,.int .i64 0,.int .i64 0]] w fun e w' => e = .returned (.int .i64 0) ∧ Below w.heap.size w w':=by
 have I9:=Tryz.underlying70
 have uh:=Tryz.underlying133
 have HB:=ah.mk (Below.refl w.heap.size w)
 have A2:=ah.mk (show aT.f 24 = some (bx,0,1,be,be,true) from rfl)
 have A4:=ah.mk (show bK.f 0 = some (false,false,false,0,0) from rfl)
 have A5:=ah.mk (show iR.f 0 false = some true from rfl)
 have A7:=A5
 have A9:=A5
 go_enter Tryz.func79,Tryz.ntmps79
 go_wp2_with (first | ((with_reducible refine bI (N:=1) rfl ?_); refine dV ?hg (N:=1) ?hd (cs:=#[.int .i64 24,.int .i64 0,.int .i64 0,.int .i64 0,.int .i64 0]) (t:=70) ?hr ?_; (case hd => rfl); (case hg => rfl); (case hr => first | (go_simp; done) | (go_simp; rfl)); intro vG hg w27 hbox hb; have n0_:=ah.mk (bP (by repeat (first | (with_reducible first | exact HB.out | apply ak | apply aj | apply ay) | exact HB.out)) hb); have n1_:=ah.mk (hbox); have n2_:=ah.mk ((by rw [hg]; exact (bV (by repeat (first | (with_reducible first | exact HB.out | apply ak | apply aj | apply ay) | exact HB.out))) : w.heap.size ≤ vG)); have n3_:=ah.mk ((by rw [hg]; exact (bV (by repeat (first | (with_reducible first | exact HB.out | apply ak | apply aj | apply ay) | exact HB.out))) : w.heap.size ≤ vG)); clear HB; have HB:=n0_; have qH:=n1_; have ajG:=n2_; have Oi:=n3_; clear n0_ n1_ n2_ n3_; clear hb hbox hg; have Zh : w27.cell? ⟨vG,0,none⟩ = some (.int .i64 24):=(aA qH.out 0).trans rfl; have Zi : w27.cell? ⟨vG,1,none⟩ = some (.int .i64 0):=(aA qH.out 1).trans rfl; have Zj : w27.cell? ⟨vG,2,none⟩ = some (.int .i64 0):=(aA qH.out 2).trans rfl; have Zk : w27.cell? ⟨vG,3,none⟩ = some (.int .i64 0):=(aA qH.out 3).trans rfl; have Zl : w27.cell? ⟨vG,4,none⟩ = some (.int .i64 0):=(aA qH.out 4).trans rfl; have ZG:=au qH.out 0; have ZH:=au qH.out 1; have ZI:=au qH.out 2; have ZJ:=au qH.out 3; have ZK:=au qH.out 4) | ((with_reducible refine dn (f:=83) rfl ?_); refine goesL_ (some 13) rfl rfl Tryz.func83 (by kernel_rfl) rfl #[.int .i64 24] rfl (by (try simp only [List.map_toArray,List.map_cons,List.map_nil]); first | done | rfl | (simp only [List.length_drop,List.length_take]; rfl)) ?_; (with_reducible refine (aT.calls 24 bx 0 1 be be true _ A2.out).mono ?_); rintro e w29 ⟨rfl,hb⟩; refine ⟨_,rfl,?_⟩; have n0_:=ah.mk (bU (g:=vG) (o:=.cells #[.int .i64 24,.int .i64 0,.int .i64 0,.int .i64 0,.int .i64 0] 70 (0,0)) (by (with_reducible repeat (first | refine aG ?_ _ | refine aQ ?_ | refine aC ?_ _)); exact qH.out) hb); have n1_:=ah.mk (bP (by repeat (first | (with_reducible first | exact HB.out | apply ak | apply aj | apply ay | refine aN ?_ Oi.out) | exact HB.out)) hb); clear qH; clear HB; have qH:=n0_; have HB:=n1_; clear n0_ n1_; (try clear hb); (try clear hb2); (try clear hk); (try clear hi)) | ((with_reducible refine bI (N:=3) rfl ?_); refine dV ?hg (N:=3) ?hd (cs:=#[.string (⟨#[]⟩ : ByteArray),.int .i64 0,.int .i64 0,.string (⟨#[]⟩ : ByteArray),.string (⟨#[]⟩ : ByteArray)]) (t:=133) ?hr ?_; (case hd => rfl); (case hg => rfl); (case hr => first | (go_simp; done) | (go_simp; rfl)); intro Eo hg Vl hbox hb; have n0_:=ah.mk (bU (g:=vG) (o:=.cells #[.int .i64 24,.int .i64 0,.int .i64 0,.int .i64 0,.int .i64 0] 70 (0,0)) (by (with_reducible repeat (first | refine aG ?_ _ | refine aQ ?_ | refine aC ?_ _)); exact qH.out) hb); have n1_:=ah.mk (bP (by repeat (first | (with_reducible first | exact HB.out | apply ak | apply aj | apply ay | refine aN ?_ Oi.out) | exact HB.out)) hb); have n2_:=ah.mk (hbox); have n3_:=ah.mk ((by rw [hg]; exact (bV (by repeat (first | (with_reducible first | exact HB.out | apply ak | apply aj | apply ay | refine aN ?_ Oi.out) | exact HB.out))) : w.heap.size ≤ Eo)); have n4_:=ah.mk ((by rw [hg]; exact (bV (by repeat (first | (with_reducible first | exact HB.out | apply ak | apply aj | apply ay | refine aN ?_ Oi.out) | exact HB.out))) : w.heap.size ≤ Eo)); have n5_:=ah.mk ((by rw [hg]; exact Nat.ne_of_lt (je (g:=vG) (o:=.cells #[.int .i64 24,.int .i64 0,.int .i64 0,.int .i64 0,.int .i64 0] 70 (0,0)) (by (with_reducible repeat (first | refine aG ?_ _ | refine aQ ?_ | refine aC ?_ _)); exact qH.out)) : vG ≠ Eo)); have n6_:=ah.mk ((by rw [hg]; exact Nat.ne_of_gt (je (g:=vG) (o:=.cells #[.int .i64 24,.int .i64 0,.int .i64 0,.int .i64 0,.int .i64 0] 70 (0,0)) (by (with_reducible repeat (first | refine aG ?_ _ | refine aQ ?_ | refine aC ?_ _)); exact qH.out)) : Eo ≠ vG)); clear qH; clear HB; have qH:=n0_; have HB:=n1_; have Dp:=n2_; have ajH:=n3_; have ad7:=n4_; have Ur:=n5_; have Us:=n6_; clear n0_ n1_ n2_ n3_ n4_ n5_ n6_; clear hb hbox hg; have ak2:=Us.out; have alb:=Ur.out; have agC : Vl.cell? ⟨Eo,0,none⟩ = some (.string (⟨#[]⟩ : ByteArray)):=(aA Dp.out 0).trans rfl; have agD : Vl.cell? ⟨Eo,1,none⟩ = some (.int .i64 0):=(aA Dp.out 1).trans rfl; have agE : Vl.cell? ⟨Eo,2,none⟩ = some (.int .i64 0):=(aA Dp.out 2).trans rfl; have agF : Vl.cell? ⟨Eo,3,none⟩ = some (.string (⟨#[]⟩ : ByteArray)):=(aA Dp.out 3).trans rfl; have agG : Vl.cell? ⟨Eo,4,none⟩ = some (.string (⟨#[]⟩ : ByteArray)):=(aA Dp.out 4).trans rfl; have ahh:=au Dp.out 0; have ahi:=au Dp.out 1; have ahj:=au Dp.out 2; have ahk:=au Dp.out 3; have ahl:=au Dp.out 4) | ((with_reducible refine dn (f:=43) rfl ?_); refine goesL_ (some 21) rfl rfl Tryz.func43 (by kernel_rfl) rfl #[.int .i64 0] rfl (by (try simp only [List.map_toArray,List.map_cons,List.map_nil]); first | done | rfl | (simp only [List.length_drop,List.length_take]; rfl)) ?_; (with_reducible refine (bK.calls 0 false false false 0 0 _ A4.out).mono ?_); rintro e w' ⟨rfl,⟨nd,rfl⟩⟩; refine ⟨_,rfl,?_⟩; have agH : Vl.cell? ⟨vG,0,none⟩ = some (.int .i64 24):=(aA qH.out 0).trans rfl; have agI : Vl.cell? ⟨vG,1,none⟩ = some (.int .i64 0):=(aA qH.out 1).trans rfl; have agJ : Vl.cell? ⟨vG,2,none⟩ = some (.int .i64 0):=(aA qH.out 2).trans rfl; have agK : Vl.cell? ⟨vG,3,none⟩ = some (.int .i64 0):=(aA qH.out 3).trans rfl; have agL : Vl.cell? ⟨vG,4,none⟩ = some (.int .i64 0):=(aA qH.out 4).trans rfl; have ahm:=au qH.out 0; have ahn:=au qH.out 1; have aho:=au qH.out 2; have ahp:=au qH.out 3; have ahq:=au qH.out 4) | ((with_reducible refine dn (f:=84) rfl ?_); refine goesL_ (some 30) rfl rfl Tryz.func84 (by kernel_rfl) rfl #[.int .i64 0,.bool false] rfl (by (try simp only [List.map_toArray,List.map_cons,List.map_nil]); first | done | rfl | (simp only [List.length_drop,List.length_take]; rfl)) ?_; (with_reducible refine (iR.calls 0 false true _ A5.out).mono ?_); rintro e w' ⟨rfl,⟨nd,rfl⟩⟩; refine ⟨_,rfl,?_⟩) | (go_at_call 84; (with_reducible refine (iR.calls 0 false true _ A7.out).mono ?_); rintro e w' ⟨rfl,⟨nd,rfl⟩⟩) | (go_at_call 84; (with_reducible refine (iR.calls 0 false true _ A9.out).mono ?_); rintro e w' ⟨rfl,⟨nd,rfl⟩⟩))
 go_ret
 exact ⟨by first | rfl | (simp [bZ,cO] <;> rfl) | (simp [*,bZ,cO] <;> rfl),by repeat (first | (with_reducible first | exact HB.out | apply ak | apply aj | apply ay | refine aN ?_ Oi.out | refine aN ?_ ad7.out) | exact HB.out)⟩
theorem OQ (w : World) : Calls Tryz.prog 33 #[.agg #[.int .i64 24,.int .i64 0,.int .i64 0,.int .i64 0,.int .i64 0]] w fun e w' => e = .returned (.tuple #[.int .u32 402653184,.int .i64 0]) ∧ Below w.heap.size w w':=by
 have I9:=Tryz.underlying70
 have HB:=ah.mk (Below.refl w.heap.size w)
 have HC:=ah.mk QF
 go_enter Tryz.func33,Tryz.ntmps33
 go_wp2_with (first | ((with_reducible refine bI (N:=1) rfl ?_); refine dV ?hg (N:=1) ?hd (cs:=#[.int .i64 24,.int .i64 0,.int .i64 0,.int .i64 0,.int .i64 0]) (t:=70) ?hr ?_; (case hd => rfl); (case hg => rfl); (case hr => first | (go_simp; done) | (go_simp; rfl)); intro AV hg w9 hbox hb; have n0_:=ah.mk (bP (by repeat (first | (with_reducible first | exact HB.out | apply ak | apply aj | apply ay) | exact HB.out)) hb); have n1_:=ah.mk (hbox); have n2_:=ah.mk ((by rw [hg]; exact (bV (by repeat (first | (with_reducible first | exact HB.out | apply ak | apply aj | apply ay) | exact HB.out))) : w.heap.size ≤ AV)); have n3_:=ah.mk ((by rw [hg]; exact (bV (by repeat (first | (with_reducible first | exact HB.out | apply ak | apply aj | apply ay) | exact HB.out))) : w.heap.size ≤ AV)); clear HB; have HB:=n0_; have rP:=n1_; have ajI:=n2_; have aar:=n3_; clear n0_ n1_ n2_ n3_; clear hb hbox hg; have LD : w9.cell? ⟨AV,0,none⟩ = some (.int .i64 24):=(aA rP.out 0).trans rfl; have LG : w9.cell? ⟨AV,1,none⟩ = some (.int .i64 0):=(aA rP.out 1).trans rfl; have LH : w9.cell? ⟨AV,2,none⟩ = some (.int .i64 0):=(aA rP.out 2).trans rfl; have LJ : w9.cell? ⟨AV,3,none⟩ = some (.int .i64 0):=(aA rP.out 3).trans rfl; have agj : w9.cell? ⟨AV,4,none⟩ = some (.int .i64 0):=(aA rP.out 4).trans rfl; have L8:=au rP.out 0; have L9:=au rP.out 1; have Mc:=au rP.out 2; have Md:=au rP.out 3; have agZ:=au rP.out 4) | ((with_reducible refine dn (f:=79) rfl ?_); refine goesL_ (some 7) rfl rfl Tryz.func79 (by kernel_rfl) rfl #[.agg #[.int .i64 24,.int .i64 0,.int .i64 0,.int .i64 0,.int .i64 0]] rfl (by (try simp only [List.map_toArray,List.map_cons,List.map_nil]); first | done | rfl | (simp only [List.length_drop,List.length_take]; rfl)) ?_; (with_reducible refine (HC.out _).mono ?_); rintro e Qg ⟨rfl,hb⟩; refine ⟨_,rfl,?_⟩; have n0_:=ah.mk (bU (g:=AV) (o:=.cells #[.int .i64 24,.int .i64 0,.int .i64 0,.int .i64 0,.int .i64 0] 70 (0,0)) (by (with_reducible repeat (first | refine aG ?_ _ | refine aQ ?_ | refine aC ?_ _)); exact rP.out) hb); have n1_:=ah.mk (bP (by repeat (first | (with_reducible first | exact HB.out | apply ak | apply aj | apply ay | refine aN ?_ aar.out) | exact HB.out)) hb); clear rP; clear HB; have rP:=n0_; have HB:=n1_; clear n0_ n1_; (try clear hb); (try clear hb2); (try clear hk); (try clear hi); have YZ : Qg.cell? ⟨AV,0,none⟩ = some (.int .i64 24):=(aA rP.out 0).trans rfl; have Y0 : Qg.cell? ⟨AV,1,none⟩ = some (.int .i64 0):=(aA rP.out 1).trans rfl; have Y1 : Qg.cell? ⟨AV,2,none⟩ = some (.int .i64 0):=(aA rP.out 2).trans rfl; have Y2 : Qg.cell? ⟨AV,3,none⟩ = some (.int .i64 0):=(aA rP.out 3).trans rfl; have Y3 : Qg.cell? ⟨AV,4,none⟩ = some (.int .i64 0):=(aA rP.out 4).trans rfl; have Zm:=au rP.out 0; have Zn:=au rP.out 1; have Zo:=au rP.out 2; have Zp:=au rP.out 3; have Zq:=au rP.out 4))
 go_ret2
 exact ⟨by first | rfl | (simp [bZ,cO] <;> rfl) | (simp [*,bZ,cO] <;> rfl),by repeat (first | (with_reducible first | exact HB.out | apply ak | apply aj | apply ay | refine aN ?_ aar.out) | exact HB.out)⟩
end Go.Proofs.YtdbpglhdicmhhaaGreatDoor.GA
end

section
namespace Go.Proofs.YtdbpglhdicmhhaaGreatDoor.qp
open Go.RowKit Go.Shelf Go.Proofs.YtdbpglhdicmhhaaGreatDoorW.aI Go.Proofs.YtdbpglhdicmhhaaGreatDoorW.aX Go.Proofs.YtdbpglhdicmhhaaGreatDoorW.aZ iM
open Go.Proofs.YtdbpglhdicmhhaaGreatDoor.GA
def sD : ByteArray:=⟨#[102,117,110,99,32,102,10,101,120,105,116,10]⟩
theorem Pv : (gY sD).wrong = 0:=by kernel_rfl
theorem DW : (gY sD).code = [402653184]:=by kernel_rfl
theorem Pq (w : World) (S0 : Std w) : Calls Tryz.prog 11 #[] w fun e W' => e = .returned (.bool true) ∧ Below w.heap.size w W':=by
 have S:=Lib.hid S0
 clear S0
 have Vt:=Lib.hid OQ
 go_enter Tryz.func11,Tryz.ntmps11
 go_wp2_with fail
 refine (PK sD (by decide) w S.out).mono ?_
 rintro e W5 hP
 unfold Parsed at hP
 rw [if_neg (by decide),if_neg (fun h => h Pv)] at hP
 obtain ⟨k,gr,l,h,rfl,hk,M⟩:=hP
 obtain ⟨gc,cc,hvc⟩ : ∃ g c,h.vc = .slice (some ⟨g,0,none⟩) 1 c:=by
  rcases bf.slice M.mem 0 rfl with ⟨c,h1,h2⟩ | ⟨g,c,h1,h2⟩
  ·have:=congrArg List.length h2; rw [show (gY sD).code = [402653184] from DW] at this; cases this
  ·rw [show (gY sD).code = [402653184] from DW] at h1; exact ⟨g,c,h1⟩
 have one1:=bf.one M.mem 1 rfl
 have afs:=bf.one M.mem 2 rfl
 have MM:=ah.mk (show bf vk w W5 ((gr,gZ h (gY sD),55) :: l) (Ea h) (⟨Kd.int .u32,39,h.vc,[402653184]⟩ :: (dO h (gY sD)).drop 1) from by have:=M.mem; unfold Ee at this; rw [← DW]; exact this)
 rw [hvc] at MM ⊢
 have H3:=Lib.hid (show (#[Value.slice (some ⟨gc,0,none⟩) 1 cc,h.vf,h.vt] : Array Value).all (·.oneCell') = true by simp [show h.vf.oneCell' = true from one1,show h.vt.oneCell' = true from afs]; rfl)
 have y0:=fun (W : World) (M : bf vk w W ((gr,gZ h (gY sD),55) :: l) (Ea h) (⟨Kd.int .u32,39,.slice (some ⟨gc,0,none⟩) 1 cc,[402653184]⟩ :: (dO h (gY sD)).drop 1)) => M.zV 0 rfl (i:=0) rfl (by decide)
 have HY0:=Lib.hid y0
 generalize h.vf = vf at *
 generalize h.vt = vt at *
 clear M hk one1 afs y0
 go_wp2_with (first
  | ((with_reducible refine bI (N:=1) rfl ?_); refine fB MM 1 #[.slice none 0 0,.slice none 0 0,.slice none 0 0] 26 ?_; clear MM; intro g1 w8 M5_; have M5:=ah.mk (show bf vk w w8 (_ :: (l ++ [_])) _ _ from M5_.out); clear M5_)
  | ((with_reducible refine aU (t:=26) (p:=1) rfl ?_); refine fW M5 26 1 (l.length + 1) #[.slice (some ⟨gc,0,none⟩) 1 cc,vf,vt] ?_ xO rfl H3.out; clear M5; intro w9 M6))
 have M7:=ah.mk (show bf vk w w9 (_ :: (l ++ [(g1,#[.slice (some ⟨gc,0,none⟩) 1 cc,vf,vt],26)])) _ _ from by have h:=M6.out; rw [Jz] at h; exact h)
 clear M6
 refine (Vt.out _).mono ?_
 rintro e W13 ⟨rfl,hb⟩
 have M8:=ah.mk (M7.out.call hb)
 clear M7 hb
 have y1 : W13.cell? ⟨gc,0,none⟩ = some (.int .u32 402653184):=M8.out.zV 0 rfl (i:=0) rfl (by decide)
 have y2 : W13.cell? ⟨g1,0,none⟩ = some (.slice (some ⟨gc,0,none⟩) 1 cc):=(M8.out.mem.cell (l.length + 1) xO 0).trans rfl
 go_wp2
 go_returns
 exact ⟨rfl,M8.out.mem.below⟩
end Go.Proofs.YtdbpglhdicmhhaaGreatDoor.qp
end

section
namespace Go.Proofs.YtdbpglhdicmhhaaGreatDoor.qp
open Go.RowKit Go.Shelf Go.Proofs.YtdbpglhdicmhhaaGreatDoorW.aI Go.Proofs.YtdbpglhdicmhhaaGreatDoorW.aX Go.Proofs.YtdbpglhdicmhhaaGreatDoorW.aZ iM
open Go.Proofs.YtdbpglhdicmhhaaGreatDoor.GA
structure Dom (l0 : List Int) (l1 : List jw) (l2 : List qB) : Prop where
 fits : Fits l0 l1 l2
 words : ∀ x ∈ l0,0 ≤ x ∧ x < 4294967296
 cases : ∀ t ∈ l2,∀ c ∈ t.f0,Q.RQ c
theorem YS : Dom [] [] []:=⟨⟨by decide,by decide,by decide,fun t h => by cases h⟩,(fun x h => by cases h),(fun t h => by cases h)⟩
theorem Dom.small {l0 : List Int} {l1 : List jw} {l2 : List qB} (h : Dom l0 l1 l2) (hn : l0.length + l2.length + Q.sN l2 ≤ 262144) : (l0.length ≤ 262144 ∧ l2.length ≤ 262144) ∧ ∀ t ∈ l2,t.f0.length ≤ 262144:=by
 refine ⟨⟨by omega,by omega⟩,fun t ht => ?_⟩
 have:=Q.IQ ht
 omega
end Go.Proofs.YtdbpglhdicmhhaaGreatDoor.qp
end

section
namespace Go.Proofs.YtdbpglhdicmhhaaGreatDoor.Kinds
open Go.RowKit Go.Proofs.YtdbpglhdicmhhaaGreatDoorW.aI Go.Proofs.YtdbpglhdicmhhaaGreatDoor.Opn Go.Proofs.YtdbpglhdicmhhaaGreatDoor.GA
theorem wf_i64 {n : Int} (h : (Lit.int IntKind.i64 n).wf = true) : Q.I64 n:=by
 unfold Lit.wf at h
 rw [Bool.and_eq_true] at h
 have a:=of_decide_eq_true h.1
 have b:=of_decide_eq_true h.2
 rw [show IntKind.i64.min = -9223372036854775808 by decide] at a
 rw [show IntKind.i64.max = 9223372036854775807 by decide] at b
 exact ⟨a,b⟩
theorem dom {x : S26} {n : Nat} (h : G26 x n) : qp.Dom x.code x.funcs x.tabs:=by
 have h0:=h.1.1
 have h1:=h.2.1.1
 have h2:=h.2.2.1
 have h3:=h.2.2.2.2.2
 dsimp only at h0 h1 h2 h3
 refine ⟨⟨by omega,by omega,by omega,fun t ht => ?_⟩,words h,fun t ht c hc => ?_⟩
 ·have h4:=(h3 t ht).1.1
  dsimp only at h4
  omega
 ·have h4:=(h3 t ht).1.2.2.2 c hc
  exact ⟨wf_i64 h4.2.1,wf_i64 h4.2.2.1,wf_i64 h4.2.2.2⟩
end Go.Proofs.YtdbpglhdicmhhaaGreatDoor.Kinds
end
