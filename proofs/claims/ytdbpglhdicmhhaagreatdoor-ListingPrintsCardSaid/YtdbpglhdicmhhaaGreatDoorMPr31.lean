import Derived.Test.YtdbpglhdicmhhaaGreatDoorMPr30
set_option maxHeartbeats 20000000
set_option maxRecDepth 100000
set_option linter.unusedVariables false
set_option linter.unusedSimpArgs false
section
namespace Go.Proofs.YtdbpglhdicmhhaaGreatDoor.qp
open Go.RowKit Go.Shelf Go.Proofs.YtdbpglhdicmhhaaGreatDoorW.aI Go.Proofs.YtdbpglhdicmhhaaGreatDoorW.aX Go.Proofs.YtdbpglhdicmhhaaGreatDoorW.aZ iM
open Go.Proofs.YtdbpglhdicmhhaaGreatDoor.GA
def St.qV (s : St) (u : List Int × ByteArray) : Option Int :=
 if u.1.getD 3 0 = 20 ∨ u.1.getD 3 0 = 22 then s.fm u.2 else if u.1.getD 3 0 = 34 then s.tm u.2 else s.lm (u.1.getD 1 0,u.2)
def St.patch (s : St) (q : Nat) (n : Int) : St:={ s with ins:=s.ins.set q ((s.ins.getD q []).take 4 ++ [n]),code:=s.code.set q (rM ((s.ins.getD q []).take 4 ++ [n])) }
def St.qN (s : St) : List (List Int × ByteArray) → St
 | [] => s
 | u :: r => match s.qV u with
  | none => s.bad 71 (u.1.getD 2 0)
  | some n => if n > 65535 then s.bad 71 (u.1.getD 2 0) else St.qN (s.patch (u.1.getD 0 0).toNat n) r
def FM (s : St) : Prop:=s.code.length = s.ins.length ∧ ∀ u ∈ s.uses,∃ (q : Nat) (fn ln op : Int) (nm : ByteArray),u = ([(q : Int),fn,ln,op],nm) ∧ q < s.ins.length ∧ nm.size ≤ 262144 ∧ (Lit.int .i64 fn).wf = true
theorem FM.patch {s : St} (h : FM s) (q : Nat) (n : Int) : FM (s.patch q n):=by
 refine ⟨?_,?_⟩
 ·show (s.code.set _ _).length = (s.ins.set _ _).length
  rw [List.length_set,List.length_set]; exact h.1
 ·show ∀ u ∈ s.uses,∃ (q_1 : Nat) (fn ln op : Int) (nm : ByteArray),u = ([(q_1 : Int),fn,ln,op],nm) ∧ q_1 < (s.ins.set _ _).length ∧ _
  rw [List.length_set]; exact h.2
theorem vO.patch {k : Nat} {s : St} (h : vO k s) (q : Nat) (n : Int) : vO k (s.patch q n):=vO.fin h q _ _
theorem rW {s : St} {u : List Int × ByteArray} {r : List (List Int × ByteArray)} (h : (s.qV u).isSome = false ∨ (s.qV u).getD 0 > 65535) : s.qN (u :: r) = s.bad 71 (u.1.getD 2 0):=by
 rw [St.qN]
 cases hm : s.qV u with
 | none => rfl
 | some n =>
  rw [hm] at h
  rcases h with h | h
  ·cases h
  ·exact if_pos h
theorem EO {s : St} {u : List Int × ByteArray} {r : List (List Int × ByteArray)} (h : (s.qV u).isSome = true) (h2 : ¬ (s.qV u).getD 0 > 65535) : s.qN (u :: r) = (s.patch (u.1.getD 0 0).toNat ((s.qV u).getD 0)).qN r:=by
 rw [St.qN]
 cases hm : s.qV u with
 | none => rw [hm] at h; cases h
 | some n =>
  rw [hm] at h2
  exact if_neg h2
theorem wE {s : St} {q : Nat} {a0 a1 a2 a3 a4 n : Int} (h : s.ins[q]? = some [a0,a1,a2,a3,a4]) : s.patch q n = { s with ins:=s.ins.set q [a0,a1,a2,a3,n],code:=s.code.set q (rM [a0,a1,a2,a3,n]) }:=by
 unfold St.patch
 rw [show s.ins.getD q [] = [a0,a1,a2,a3,a4] by rw [List.getD_eq_getElem?_getD,h]; rfl]
 rfl
theorem UG {y : List Int} (h : (ints y).length = 5) : ∃ a0 a1 a2 a3 a4,y = [a0,a1,a2,a3,a4]:=by
 rw [ints,List.length_map] at h
 match y,h with
 | [a,b,c,d,e],_ => exact ⟨a,b,c,d,e,rfl⟩
theorem CQ {es : List TypeId} {w0 W : World} {l : List (Nat × Array Value × TypeId)} {fx : List (Nat × Obj)} {h : Hd} {s : St} {q : Nat} {x : Int} {r : Row}
  (M : bf es w0 W l fx ((r :: dO h s).set 1 ⟨Kd.int .u32,39,h.vc,s.code.set q x⟩)) : bf es w0 W l fx (r :: dO h { s with code:=s.code.set q x }):=M
theorem Ku {s : St} {q : Nat} {fn ln op : Int} {nm : ByteArray} (h : op = 20 ∨ op = 22) : s.qV ([(q : Int),fn,ln,op],nm) = s.fm nm:=if_pos h
theorem Q5 {s : St} {q : Nat} {fn ln op : Int} {nm : ByteArray} (h : op = 34) : s.qV ([(q : Int),fn,ln,op],nm) = s.tm nm:=(if_neg (by show ¬ (op = 20 ∨ op = 22); omega)).trans (if_pos h)
theorem QZ {s : St} {q : Nat} {fn ln op : Int} {nm : ByteArray} (h : op ≠ 20 ∧ op ≠ 22 ∧ op ≠ 34) : s.qV ([(q : Int),fn,ln,op],nm) = s.lm (fn,nm):=(if_neg (by show ¬ (op = 20 ∨ op = 22); omega)).trans (if_neg h.2.2)
section
variable {k : Nat} {w0 W : World} {gr : Nat} {l : List (Nat × Array Value × TypeId)} {h : Hd} {s : St}
theorem Py (M0 : dX k w0 W gr l h s) (S : Std w0) (hk : k ≤ 262144) (hui : FM s) :
  Calls Tryz.prog 26 #[.pointer (some ⟨gr,0,none⟩)] W fun z w' => z = .returned (.tuple #[]) ∧ dX k w0 w' gr l h (s.qN s.uses):=by
 have SS:=Lib.hid S
 have HK:=Lib.hid hk
 have HUI:=Lib.hid hui
 obtain ⟨vc,vf,vt,vi,vo,vu,gf,gt,gl,of,ot,ol,vs⟩:=h
 obtain ⟨Au,nu,cu,rfl,hnu⟩ : ∃ A n c,vu = .slice A n c ∧ n = s.uses.length:=by
  obtain ⟨A,c,he⟩:=Kd.iy (M0.mem.mem.owns 5 _ rfl)
  exact ⟨A,_,c,he,by simp⟩
 obtain ⟨Ai,ni,ci,rfl,hni⟩ : ∃ A n c,vi = .slice A n c ∧ n = s.ins.length:=by
  obtain ⟨A,c,he⟩:=Kd.iy (M0.mem.mem.owns 3 _ rfl)
  exact ⟨A,_,c,he,by simp⟩
 obtain ⟨Ac,nc,cc,rfl,hnc⟩ : ∃ A n c,vc = .slice A n c ∧ n = s.code.length:=by
  obtain ⟨A,c,he⟩:=Kd.iy (M0.mem.mem.owns 0 _ rfl)
  exact ⟨A,_,c,he,rfl⟩
 have HNU:=Lib.hid hnu
 have HNI:=Lib.hid hni
 have HNC:=Lib.hid hnc
 have ah6:=Lib.hid (show nu ≤ 262144 by have:=M0.few.uses; omega)
 have M:=ah.mk M0
 have x10:=bY M0.mem 10 rfl
 clear M0 S hk hui hnu hni hnc
 go_enter Tryz.func26,Tryz.ntmps26
 go_wp2
 go_loopw [11] (fun v11 wr => ∃ (i : Nat) (s2 : St),i ≤ nu ∧ v11 = .int .i64 (i : Int) ∧ s2.uses = s.uses ∧ s2.ins.length = ni ∧ s2.code.length = nc ∧ FM s2 ∧ s2.qN (s.uses.drop i) = s.qN s.uses ∧ dX k w0 wr gr l ⟨.slice Ac nc cc,vf,vt,.slice Ai ni ci,vo,.slice Au nu cu,gf,gt,gl,of,ot,ol,vs⟩ s2) (fun v11 _ => nu - (intOf v11).toNat)
 case atStart => exact ⟨0,s,Nat.zero_le _,rfl,rfl,HNI.out.symm,HNC.out.symm,HUI.out,by rw [List.drop_zero],M.out⟩
 obtain ⟨i,s2,hi,rfl,hus,hil,hcl,hu2,hnl,MM⟩:=hrel
 have M1:=ah.mk MM
 clear MM M x10
 by_cases hir : i < nu
 ·obtain ⟨u,hu⟩ : ∃ u,s.uses[i]? = some u:=⟨_,List.getElem?_eq_getElem (by rw [← HNU.out]; exact hir)⟩
  obtain ⟨q,fn,ln,op,nm,rfl,ai6,hnm,hfn⟩:=hu2.2 u (by rw [hus]; exact List.mem_of_getElem? hu)
  obtain ⟨gu,rfl⟩ : ∃ g,Au = some ⟨g,0,none⟩:=by
   rcases bf.slice M1.out.mem 5 rfl with ⟨c0,h1,h2⟩ | ⟨g,c0,h1,h2⟩
   ·injection h1 with _ h1 _; omega
   ·injection h1 with h1 _ _; exact ⟨g,h1⟩
  obtain ⟨gi,rfl,hci⟩ : ∃ g,Ai = some ⟨g,0,none⟩ ∧ ni ≤ ci:=by
   rcases bf.slice M1.out.mem 3 rfl with ⟨c0,h1,h2⟩ | ⟨g,c0,h1,h2⟩
   ·injection h1 with _ h1 _; omega
   ·injection h1 with h1 h3 h4; exact ⟨g,h1,by rw [h3,h4]; exact h2⟩
  obtain ⟨gc,rfl,hcc⟩ : ∃ g,Ac = some ⟨g,0,none⟩ ∧ nc ≤ cc:=by
   rcases bf.slice M1.out.mem 0 rfl with ⟨c0,h1,h2⟩ | ⟨g,c0,h1,h2⟩
   ·injection h1 with _ h1 _; have:=hu2.1; omega
   ·injection h1 with h1 h3 h4; exact ⟨g,h1,by rw [h3,h4]; exact h2⟩
  have hqi : q < ni:=by omega
  have hqc : q < nc:=by have:=hu2.1; omega
  have amK : (q : Int) < (ni : Int):=by omega
  have amJ : (q : Int) < (nc : Int):=by omega
  obtain ⟨y,hy⟩ : ∃ y,s2.ins[q]? = some y:=⟨_,List.getElem?_eq_getElem (by omega)⟩
  have hx0 : (s2.ins.map ints)[q]? = some (ints y):=by rw [List.getElem?_map,hy]; rfl
  obtain ⟨a0,a1,a2,a3,a4,rfl⟩:=UG (bf.ND M1.out.mem 3 rfl hx0 hqi)
  have hcell : (s2.uses.map zH)[i]? = some [Value.int .i64 (q : Int),.int .i64 fn,.int .i64 ln,.int .i64 op,.string nm]:=by rw [hus,List.getElem?_map,hu]; rfl
  have q2 : (i : Int) < (nu : Int):=by omega
  have JY:=Lib.hid hir
  have W1:=Lib.hid (show wrap64 ((i : Int) + 1) = ((i + 1 : Nat) : Int) by rw [Int.natCast_add]; exact IntWalk.wrap64_in _ (by have:=ah6.out; omega))
  have HDR:=Lib.hid (drop_cons hu)
  have Vg:=Lib.hid hnl
  have HUS:=Lib.hid hus
  have Qo:=Lib.hid hil
  have Oa:=Lib.hid hcl
  have HU2:=Lib.hid hu2
  have HY:=Lib.hid hy
  have rF:=Lib.hid M1.out.few
  have fU:=Lib.hid M1.out.says
  have iK:=Lib.hid M1.out.len
  obtain ⟨kl,hkl⟩:=Xr (n:=fn) (b:=nm) hfn (by unfold maxLen; omega)
  have HKL:=Lib.hid hkl
  clear hu hus hil hcl hu2 hnl hy hir hi ai6 hkl
  have hrg:=fun (j : Nat) (u : Value) (hj : [Value.int .i64 (q : Int),.int .i64 fn,.int .i64 ln,.int .i64 op,.string nm][j]? = some u) => M1.out.mem.elem 5 rfl hcell (by omega) j hj
  by_cases hop : op = 20
  ·have HOP:=Lib.hid hop
   have b20 : (op == 20) = true:=by rw [hop]; rfl
   have b22 : (op == 22) = false:=by rw [hop]; rfl
   have b34 : (op == 34) = false:=by rw [hop]; rfl
   clear hop
   go_wp2_with (first
    | ((with_reducible refine bI (N:=14) rfl ?_); refine wpList_load_mid rfl 111 (.tmp 13) rfl gu (i * 5) rfl [Value.int .i64 (q : Int),.int .i64 fn,.int .i64 ln,.int .i64 op,.string nm] _ (fun j u hj => hrg j u hj) Tryz.underlying111 rfl (by kernel_rfl) ?_)
    | ((with_reducible refine bI (N:=3) rfl ?_); refine fBr (ah.mk M1.out.mem) 3 [.int .i64 0,.int .i64 0,.int .i64 0,.int .i64 0,.string ByteArray.empty] 111 (by intro q hq; simp at hq; rcases hq with rfl | rfl <;> rfl) (by decide) ?_; clear M1; intro g3 W2 M2)
    | ((with_reducible refine aU (t:=111) (p:=3) rfl ?_); refine fE M2 111 (.tmp 3) 0 0 (.agg [Value.int .i64 (q : Int),.int .i64 fn,.int .i64 ln,.int .i64 op,.string nm].toArray) [Value.int .i64 (q : Int),.int .i64 fn,.int .i64 ln,.int .i64 op,.string nm] [.int .i64 0,.int .i64 0,.int .i64 0,.int .i64 0,.string ByteArray.empty] (by decide) rfl ?_ rfl (by intro q hq; simp at hq; rcases hq with rfl | rfl | rfl | rfl | rfl <;> rfl) (Nat.le_refl 5) rfl; clear M2; intro W3 M3; have z3 : W3.cell? ⟨g3,3,none⟩ = some (.int .i64 op):=M3.out.elem 0 rfl (i:=0) rfl (by decide) 3 rfl))
   have M5:=ah.mk (show bf vk w0 W3 _ _ (⟨Kd.raw 5,111,.slice (some ⟨g3,0,none⟩) 1 1,[[Value.int .i64 (q : Int),.int .i64 fn,.int .i64 ln,.int .i64 op,.string nm]]⟩ :: _) from M3.out)
   clear M3
   have hlk : ∀ j,(Instr.lookup 49 (.map (some gf)) (.string nm) true).run Tryz.prog (W3.drewN j) = .ok (.tuple #[.int .i64 ((s2.fm nm).getD 0),.bool (s2.fm nm).isSome]) (W3.drewN j):=fun j => fU.out.f.look NU (by kernel_rfl) (by kernel_rfl) ((M5.out.drewN j).fix 0 _ rfl).1 (zero3 _) nm (Bz (by unfold maxLen; omega))
   have x4 : W3.cell? ⟨gr,4,none⟩ = some (.map (some gf)):=bY M5.out 4 rfl
   have z4 : W3.cell? ⟨g3,4,none⟩ = some (.string nm):=M5.out.elem 0 rfl (i:=0) rfl (by decide) 4 rfl
   have z1 : W3.cell? ⟨g3,1,none⟩ = some (.int .i64 fn):=M5.out.elem 0 rfl (i:=0) rfl (by decide) 1 rfl
   have Iu:=Lib.hid (Ku (s:=s2) (q:=q) (fn:=fn) (ln:=ln) (nm:=nm) (Or.inl HOP.out))
   cases hso : (s2.fm nm).isSome with
   | false =>
    rw [hso] at hlk
    have HST:=Lib.hid (rW (r:=s.uses.drop (i + 1)) (show (s2.qV ([(q : Int),fn,ln,op],nm)).isSome = false ∨ _ from .inl (by rw [Iu.out]; exact hso)))
    go_quiet (fail)
    have M6:=ah.mk (M5.out.call (aj (Below.refl _ _) nq))
    clear M5 hlk x4 z1 z3 z4 hso
    revert M6
    generalize W3.drewN nq = w9
    intro M6
    have z2 : w9.cell? ⟨g3,2,none⟩ = some (.int .i64 ln):=M6.out.elem 0 rfl (i:=0) rfl (by decide) 2 rfl
    have BJ:=Lib.hid (tq (dX.mk (M6.out.fQ Mem.tail) rF.out fU.out iK.out) SS.out 71 ln)
    go_wp2_with fail
    refine BJ.out.mono ?_
    rintro e w10 ⟨rfl,M7⟩
    have M8:=ah.mk M7
    clear M7 M6 z2
    go_wp2
    go_returns
    exact ⟨rfl,by rw [← Vg.out,HDR.out,HST.out]; exact M8.out⟩
   | true =>
    rw [hso] at hlk
    obtain ⟨z,hz⟩ : ∃ z,(s2.fm nm).getD 0 = z:=⟨_,rfl⟩
    by_cases hbig : z > 65535
    ·have HST:=Lib.hid (rW (r:=s.uses.drop (i + 1)) (show _ ∨ (s2.qV ([(q : Int),fn,ln,op],nm)).getD 0 > 65535 from .inr (by rw [Iu.out,hz]; exact hbig)))
     rw [hz] at hlk
     have d1 : decide (z > 65535) = true:=decide_eq_true hbig
     have d2 : decide (65535 < z) = true:=decide_eq_true hbig
     clear hbig hz
     go_quiet (fail)
     have M6:=ah.mk (M5.out.call (aj (Below.refl _ _) nq))
     clear M5 hlk x4 z1 z3 z4 hso
     revert M6
     generalize W3.drewN nq = w9
     intro M6
     have z2 : w9.cell? ⟨g3,2,none⟩ = some (.int .i64 ln):=M6.out.elem 0 rfl (i:=0) rfl (by decide) 2 rfl
     have BJ:=Lib.hid (tq (dX.mk (M6.out.fQ Mem.tail) rF.out fU.out iK.out) SS.out 71 ln)
     go_wp2_with fail
     refine BJ.out.mono ?_
     rintro e w10 ⟨rfl,M7⟩
     have M8:=ah.mk M7
     clear M7 M6 z2
     go_wp2
     go_returns
     exact ⟨rfl,by rw [← Vg.out,HDR.out,HST.out]; exact M8.out⟩
    ·have Yp:=Lib.hid (show s2.qN (([(q : Int),fn,ln,op],nm) :: s.uses.drop (i + 1)) = St.qN { s2 with ins:=s2.ins.set q [a0,a1,a2,a3,z],code:=s2.code.set q (rM [a0,a1,a2,a3,z]) } (s.uses.drop (i + 1)) by
      rw [EO (by rw [Iu.out]; exact hso) (by rw [Iu.out,hz]; exact hbig),Iu.out,hz,← wE HY.out]; rfl)
     rw [hz] at hlk
     have d1 : decide (z > 65535) = false:=decide_eq_false hbig
     have d2 : decide (65535 < z) = false:=decide_eq_false hbig
     obtain ⟨re,hre⟩:=BQ a0 a1 a2 a3 z
     have Vt:=Lib.hid (fun W => iH.calls a0 a1 a2 a3 z _ _ W hre)
     clear hbig hz hre
     go_quiet (fail)
     have M6:=ah.mk (M5.out.call (aj (Below.refl _ _) nq))
     clear M5 hlk x4 z1 z3 z4 hso
     revert M6
     generalize W3.drewN nq = w9
     intro M6
     go_wp2_with fail
     refine gQ [9] [(⟨gr,3,none⟩,.slice (some ⟨gi,0,none⟩) ni ci),(⟨g3,0,none⟩,.int .i64 (q : Int))] M6 ?_ (fun Qg MD fV => ?_)
     ·intro v hv
      simp only [List.mem_cons,List.not_mem_nil,or_false] at hv
      rcases hv with rfl | rfl
      ·exact bY M6.out 3 rfl
      ·exact M6.out.elem 0 rfl (i:=0) rfl (by decide) 0 rfl
     clear M6
     refine kP 0 65 (.pointer (some ⟨gr,0,none⟩)) ?_
     simp only [Act.put,bF,bH,bG]
     refine kP 1 66 (.pointer (some ⟨gr,0,none⟩)) ?_
     simp only [Act.put,bF,bH,bG]
     refine kP 2 67 (.pointer (some ⟨gr,3,none⟩)) ?_
     simp only [Act.put,bF,bH,bG]
     refine kE fV 3 68 0 ?_
     simp only [Act.put,bF,bH,bG]
     refine kP 4 69 (.pointer (some ⟨g3,0,none⟩)) ?_
     simp only [Act.put,bF,bH,bG]
     refine kE fV 5 70 1 ?_
     simp only [Act.put,bF,bH,bG]
     refine kP 6 71 (.int .i64 z) ?_
     simp only [Act.put,bF,bH,bG]
     refine kP 7 72 (.pointer (some ⟨gi,q * 5,none⟩)) ?_
     simp only [Act.put,bF,bH,bG]
     refine kP 8 73 (.pointer (some ⟨gi,q * 5 + 4,none⟩)) ?_
     simp only [Act.put,bF,bH,bG]
     have MF:=ah.mk (bf.front MD.out 4 rfl)
     clear MD
     refine kR [9] ?_
     refine Xo MF 9 3 (.tmp 73) q 4 (.int .i64 z) [.int .i64 z] [Value.int .i64 a0,.int .i64 a1,.int .i64 a2,.int .i64 a3,.int .i64 a4] hqi hx0 ?_ rfl (by intro q hq; rw [List.mem_singleton] at hq; subst hq; rfl) (Nat.le_refl 5) aK.nil rfl
     clear MF fV
     intro w3 MG
     refine iG ?_
     have MI:=ah.mk (BU (s:=s2) (op:=a0) (a:=a1) (b:=a2) (c:=a3) (jC:=z) (x0:=[Value.int .i64 a0,.int .i64 a1,.int .i64 a2,.int .i64 a3,.int .i64 a4]) rfl MG.out)
     clear MG
     go_wp2_with fail
     have hx1 : ((s2.ins.set q [a0,a1,a2,a3,z]).map ints)[q]? = some (ints [a0,a1,a2,a3,z]):=by rw [List.getElem?_map,List.getElem?_set_self (by rw [Qo.out]; exact hqi)]; rfl
     refine gQ [20] [(⟨gr,0,none⟩,.slice (some ⟨gc,0,none⟩) nc cc),(⟨g3,0,none⟩,.int .i64 (q : Int)),(⟨gr,3,none⟩,.slice (some ⟨gi,0,none⟩) ni ci),(⟨gi,q * 5 + 0,none⟩,.int .i64 a0),(⟨gi,q * 5 + 1,none⟩,.int .i64 a1),(⟨gi,q * 5 + 2,none⟩,.int .i64 a2),(⟨gi,q * 5 + 3,none⟩,.int .i64 a3),(⟨gi,q * 5 + 4,none⟩,.int .i64 z)] MI ?_ (fun w4 MD fV => ?_)
     ·intro v hv
      simp only [List.mem_cons,List.not_mem_nil,or_false] at hv
      rcases hv with rfl | rfl | rfl | rfl | rfl | rfl | rfl | rfl
      ·exact bY MI.out 0 rfl
      ·exact MI.out.elem 0 rfl (i:=0) rfl (by decide) 0 rfl
      ·exact bY MI.out 3 rfl
      ·exact MI.out.elem 4 rfl hx1 hqi 0 rfl
      ·exact MI.out.elem 4 rfl hx1 hqi 1 rfl
      ·exact MI.out.elem 4 rfl hx1 hqi 2 rfl
      ·exact MI.out.elem 4 rfl hx1 hqi 3 rfl
      ·exact MI.out.elem 4 rfl hx1 hqi 4 rfl
     clear MI
     refine kP 0 75 (.pointer (some ⟨gr,0,none⟩)) ?_
     simp only [Act.put,bF,bH,bG]
     refine kP 1 76 (.pointer (some ⟨gr,0,none⟩)) ?_
     simp only [Act.put,bF,bH,bG]
     refine kP 2 77 (.pointer (some ⟨gr,0,none⟩)) ?_
     simp only [Act.put,bF,bH,bG]
     refine kP 3 78 (.pointer (some ⟨gr,0,none⟩)) ?_
     simp only [Act.put,bF,bH,bG]
     refine kE fV 4 79 0 ?_
     simp only [Act.put,bF,bH,bG]
     refine kP 5 80 (.pointer (some ⟨g3,0,none⟩)) ?_
     simp only [Act.put,bF,bH,bG]
     refine kE fV 6 81 1 ?_
     simp only [Act.put,bF,bH,bG]
     refine kP 7 82 (.pointer (some ⟨gr,0,none⟩)) ?_
     simp only [Act.put,bF,bH,bG]
     refine kP 8 83 (.pointer (some ⟨gr,0,none⟩)) ?_
     simp only [Act.put,bF,bH,bG]
     refine kP 9 84 (.pointer (some ⟨gr,3,none⟩)) ?_
     simp only [Act.put,bF,bH,bG]
     refine kE fV 10 85 2 ?_
     simp only [Act.put,bF,bH,bG]
     refine kP 11 86 (.pointer (some ⟨g3,0,none⟩)) ?_
     simp only [Act.put,bF,bH,bG]
     refine kE fV 12 87 1 ?_
     simp only [Act.put,bF,bH,bG]
     refine kP 13 88 (.pointer (some ⟨gi,q * 5,none⟩)) ?_
     simp only [Act.put,bF,bH,bG]
     refine kM fV 14 89 gi (q * 5) [Value.int .i64 a0,.int .i64 a1,.int .i64 a2,.int .i64 a3,.int .i64 z] Tryz.underlying70 (fun j u hj => by rcases j with _ | _ | _ | _ | _ | j <;> simp at hj <;> subst hj <;> simp) ?_
     simp only [Act.put,bF,bH,bG]
     refine kR [15] ?_
     refine kK 15 90 Tryz.func64 #[.agg [Value.int .i64 a0,.int .i64 a1,.int .i64 a2,.int .i64 a3,.int .i64 z].toArray] ((Vt.out _).mono ?_) aK.nil
     rintro e' w5 ⟨rfl,hb5⟩
     refine ⟨_,rfl,fV.out.below hb5,?_⟩
     have ME:=ah.mk (MD.out.call hb5)
     have D9:=ah.mk (fV.out.below hb5)
     clear MD fV hb5
     simp only [Act.put,bF,bH,bG]
     refine kP 16 74 (.tuple #[.int .u32 (rM [a0,a1,a2,a3,z]),.int .i64 re]) ?_
     simp only [Act.put,bF,bH,bG]
     refine kP 17 91 (.int .u32 (rM [a0,a1,a2,a3,z])) ?_
     simp only [Act.put,bF,bH,bG]
     refine kP 18 92 (.int .i64 re) ?_
     simp only [Act.put,bF,bH,bG]
     refine kP 19 93 (.pointer (some ⟨gc,q,none⟩)) ?_
     simp only [Act.put,bF,bH,bG]
     have MF:=ah.mk (bf.front ME.out 1 rfl)
     clear ME
     refine kR [20] ?_
     refine kSi MF 20 39 (.tmp 93) q (rM [a0,a1,a2,a3,z]) hqc ?_ aK.nil
     clear MF D9
     intro w6 MG
     refine iG ?_
     have MJ:=ah.mk ((CQ (h:=⟨.slice (some ⟨gc,0,none⟩) nc cc,vf,vt,.slice (some ⟨gi,0,none⟩) ni ci,vo,.slice (some ⟨gu,0,none⟩) nu cu,gf,gt,gl,of,ot,ol,vs⟩) (s:={ s2 with ins:=s2.ins.set q [a0,a1,a2,a3,z] }) (bf.back 1 (by show 1 < (_ :: dO _ _).length; simp [dO]) MG.out)).fQ Mem.tail)
     clear MG
     have MZ:=ah.mk (dX.mk (k:=k) (s:={ s2 with ins:=s2.ins.set q [a0,a1,a2,a3,z],code:=s2.code.set q (rM [a0,a1,a2,a3,z]) }) (h:=⟨.slice (some ⟨gc,0,none⟩) nc cc,vf,vt,.slice (some ⟨gi,0,none⟩) ni ci,vo,.slice (some ⟨gu,0,none⟩) nu cu,gf,gt,gl,of,ot,ol,vs⟩) MJ.out (vO.fin rF.out q _ _) ⟨fU.out.f,fU.out.t,fU.out.l⟩ iK.out)
     clear MJ
     go_wp2
     go_roundw
     case rel =>
      refine ⟨i + 1,{ s2 with ins:=s2.ins.set q [a0,a1,a2,a3,z],code:=s2.code.set q (rM [a0,a1,a2,a3,z]) },by have:=JY.out; omega,by rw [W1.out],HUS.out,by show (s2.ins.set _ _).length = _; rw [List.length_set]; exact Qo.out,by show (s2.code.set _ _).length = _; rw [List.length_set]; exact Oa.out,by rw [← wE HY.out]; exact HU2.out.patch q z,by rw [← Vg.out,HDR.out,Yp.out],MZ.out⟩
     case measure => exact meas JY.out W1.out
  have aaW:=hop
  clear hop
  by_cases hop : op = 22
  ·have HOP:=Lib.hid hop
   have b20 : (op == 20) = false:=by rw [hop]; rfl
   have b22 : (op == 22) = true:=by rw [hop]; rfl
   have b34 : (op == 34) = false:=by rw [hop]; rfl
   clear hop
   go_wp2_with (first
    | ((with_reducible refine bI (N:=14) rfl ?_); refine wpList_load_mid rfl 111 (.tmp 13) rfl gu (i * 5) rfl [Value.int .i64 (q : Int),.int .i64 fn,.int .i64 ln,.int .i64 op,.string nm] _ (fun j u hj => hrg j u hj) Tryz.underlying111 rfl (by kernel_rfl) ?_)
    | ((with_reducible refine bI (N:=3) rfl ?_); refine fBr (ah.mk M1.out.mem) 3 [.int .i64 0,.int .i64 0,.int .i64 0,.int .i64 0,.string ByteArray.empty] 111 (by intro q hq; simp at hq; rcases hq with rfl | rfl <;> rfl) (by decide) ?_; clear M1; intro g3 W2 M2)
    | ((with_reducible refine aU (t:=111) (p:=3) rfl ?_); refine fE M2 111 (.tmp 3) 0 0 (.agg [Value.int .i64 (q : Int),.int .i64 fn,.int .i64 ln,.int .i64 op,.string nm].toArray) [Value.int .i64 (q : Int),.int .i64 fn,.int .i64 ln,.int .i64 op,.string nm] [.int .i64 0,.int .i64 0,.int .i64 0,.int .i64 0,.string ByteArray.empty] (by decide) rfl ?_ rfl (by intro q hq; simp at hq; rcases hq with rfl | rfl | rfl | rfl | rfl <;> rfl) (Nat.le_refl 5) rfl; clear M2; intro W3 M3; have z3 : W3.cell? ⟨g3,3,none⟩ = some (.int .i64 op):=M3.out.elem 0 rfl (i:=0) rfl (by decide) 3 rfl))
   have M5:=ah.mk (show bf vk w0 W3 _ _ (⟨Kd.raw 5,111,.slice (some ⟨g3,0,none⟩) 1 1,[[Value.int .i64 (q : Int),.int .i64 fn,.int .i64 ln,.int .i64 op,.string nm]]⟩ :: _) from M3.out)
   clear M3
   have hlk : ∀ j,(Instr.lookup 49 (.map (some gf)) (.string nm) true).run Tryz.prog (W3.drewN j) = .ok (.tuple #[.int .i64 ((s2.fm nm).getD 0),.bool (s2.fm nm).isSome]) (W3.drewN j):=fun j => fU.out.f.look NU (by kernel_rfl) (by kernel_rfl) ((M5.out.drewN j).fix 0 _ rfl).1 (zero3 _) nm (Bz (by unfold maxLen; omega))
   have x4 : W3.cell? ⟨gr,4,none⟩ = some (.map (some gf)):=bY M5.out 4 rfl
   have z4 : W3.cell? ⟨g3,4,none⟩ = some (.string nm):=M5.out.elem 0 rfl (i:=0) rfl (by decide) 4 rfl
   have z1 : W3.cell? ⟨g3,1,none⟩ = some (.int .i64 fn):=M5.out.elem 0 rfl (i:=0) rfl (by decide) 1 rfl
   have Iu:=Lib.hid (Ku (s:=s2) (q:=q) (fn:=fn) (ln:=ln) (nm:=nm) (Or.inr HOP.out))
   cases hso : (s2.fm nm).isSome with
   | false =>
    rw [hso] at hlk
    have HST:=Lib.hid (rW (r:=s.uses.drop (i + 1)) (show (s2.qV ([(q : Int),fn,ln,op],nm)).isSome = false ∨ _ from .inl (by rw [Iu.out]; exact hso)))
    go_quiet (fail)
    have M6:=ah.mk (M5.out.call (aj (Below.refl _ _) nq))
    clear M5 hlk x4 z1 z3 z4 hso
    revert M6
    generalize W3.drewN nq = w9
    intro M6
    have z2 : w9.cell? ⟨g3,2,none⟩ = some (.int .i64 ln):=M6.out.elem 0 rfl (i:=0) rfl (by decide) 2 rfl
    have BJ:=Lib.hid (tq (dX.mk (M6.out.fQ Mem.tail) rF.out fU.out iK.out) SS.out 71 ln)
    go_wp2_with fail
    refine BJ.out.mono ?_
    rintro e w10 ⟨rfl,M7⟩
    have M8:=ah.mk M7
    clear M7 M6 z2
    go_wp2
    go_returns
    exact ⟨rfl,by rw [← Vg.out,HDR.out,HST.out]; exact M8.out⟩
   | true =>
    rw [hso] at hlk
    obtain ⟨z,hz⟩ : ∃ z,(s2.fm nm).getD 0 = z:=⟨_,rfl⟩
    by_cases hbig : z > 65535
    ·have HST:=Lib.hid (rW (r:=s.uses.drop (i + 1)) (show _ ∨ (s2.qV ([(q : Int),fn,ln,op],nm)).getD 0 > 65535 from .inr (by rw [Iu.out,hz]; exact hbig)))
     rw [hz] at hlk
     have d1 : decide (z > 65535) = true:=decide_eq_true hbig
     have d2 : decide (65535 < z) = true:=decide_eq_true hbig
     clear hbig hz
     go_quiet (fail)
     have M6:=ah.mk (M5.out.call (aj (Below.refl _ _) nq))
     clear M5 hlk x4 z1 z3 z4 hso
     revert M6
     generalize W3.drewN nq = w9
     intro M6
     have z2 : w9.cell? ⟨g3,2,none⟩ = some (.int .i64 ln):=M6.out.elem 0 rfl (i:=0) rfl (by decide) 2 rfl
     have BJ:=Lib.hid (tq (dX.mk (M6.out.fQ Mem.tail) rF.out fU.out iK.out) SS.out 71 ln)
     go_wp2_with fail
     refine BJ.out.mono ?_
     rintro e w10 ⟨rfl,M7⟩
     have M8:=ah.mk M7
     clear M7 M6 z2
     go_wp2
     go_returns
     exact ⟨rfl,by rw [← Vg.out,HDR.out,HST.out]; exact M8.out⟩
    ·have Yp:=Lib.hid (show s2.qN (([(q : Int),fn,ln,op],nm) :: s.uses.drop (i + 1)) = St.qN { s2 with ins:=s2.ins.set q [a0,a1,a2,a3,z],code:=s2.code.set q (rM [a0,a1,a2,a3,z]) } (s.uses.drop (i + 1)) by
      rw [EO (by rw [Iu.out]; exact hso) (by rw [Iu.out,hz]; exact hbig),Iu.out,hz,← wE HY.out]; rfl)
     rw [hz] at hlk
     have d1 : decide (z > 65535) = false:=decide_eq_false hbig
     have d2 : decide (65535 < z) = false:=decide_eq_false hbig
     obtain ⟨re,hre⟩:=BQ a0 a1 a2 a3 z
     have Vt:=Lib.hid (fun W => iH.calls a0 a1 a2 a3 z _ _ W hre)
     clear hbig hz hre
     go_quiet (fail)
     have M6:=ah.mk (M5.out.call (aj (Below.refl _ _) nq))
     clear M5 hlk x4 z1 z3 z4 hso
     revert M6
     generalize W3.drewN nq = w9
     intro M6
     go_wp2_with fail
     refine gQ [9] [(⟨gr,3,none⟩,.slice (some ⟨gi,0,none⟩) ni ci),(⟨g3,0,none⟩,.int .i64 (q : Int))] M6 ?_ (fun Qg MD fV => ?_)
     ·intro v hv
      simp only [List.mem_cons,List.not_mem_nil,or_false] at hv
      rcases hv with rfl | rfl
      ·exact bY M6.out 3 rfl
      ·exact M6.out.elem 0 rfl (i:=0) rfl (by decide) 0 rfl
     clear M6
     refine kP 0 65 (.pointer (some ⟨gr,0,none⟩)) ?_
     simp only [Act.put,bF,bH,bG]
     refine kP 1 66 (.pointer (some ⟨gr,0,none⟩)) ?_
     simp only [Act.put,bF,bH,bG]
     refine kP 2 67 (.pointer (some ⟨gr,3,none⟩)) ?_
     simp only [Act.put,bF,bH,bG]
     refine kE fV 3 68 0 ?_
     simp only [Act.put,bF,bH,bG]
     refine kP 4 69 (.pointer (some ⟨g3,0,none⟩)) ?_
     simp only [Act.put,bF,bH,bG]
     refine kE fV 5 70 1 ?_
     simp only [Act.put,bF,bH,bG]
     refine kP 6 71 (.int .i64 z) ?_
     simp only [Act.put,bF,bH,bG]
     refine kP 7 72 (.pointer (some ⟨gi,q * 5,none⟩)) ?_
     simp only [Act.put,bF,bH,bG]
     refine kP 8 73 (.pointer (some ⟨gi,q * 5 + 4,none⟩)) ?_
     simp only [Act.put,bF,bH,bG]
     have MF:=ah.mk (bf.front MD.out 4 rfl)
     clear MD
     refine kR [9] ?_
     refine Xo MF 9 3 (.tmp 73) q 4 (.int .i64 z) [.int .i64 z] [Value.int .i64 a0,.int .i64 a1,.int .i64 a2,.int .i64 a3,.int .i64 a4] hqi hx0 ?_ rfl (by intro q hq; rw [List.mem_singleton] at hq; subst hq; rfl) (Nat.le_refl 5) aK.nil rfl
     clear MF fV
     intro w3 MG
     refine iG ?_
     have MI:=ah.mk (BU (s:=s2) (op:=a0) (a:=a1) (b:=a2) (c:=a3) (jC:=z) (x0:=[Value.int .i64 a0,.int .i64 a1,.int .i64 a2,.int .i64 a3,.int .i64 a4]) rfl MG.out)
     clear MG
     go_wp2_with fail
     have hx1 : ((s2.ins.set q [a0,a1,a2,a3,z]).map ints)[q]? = some (ints [a0,a1,a2,a3,z]):=by rw [List.getElem?_map,List.getElem?_set_self (by rw [Qo.out]; exact hqi)]; rfl
     refine gQ [20] [(⟨gr,0,none⟩,.slice (some ⟨gc,0,none⟩) nc cc),(⟨g3,0,none⟩,.int .i64 (q : Int)),(⟨gr,3,none⟩,.slice (some ⟨gi,0,none⟩) ni ci),(⟨gi,q * 5 + 0,none⟩,.int .i64 a0),(⟨gi,q * 5 + 1,none⟩,.int .i64 a1),(⟨gi,q * 5 + 2,none⟩,.int .i64 a2),(⟨gi,q * 5 + 3,none⟩,.int .i64 a3),(⟨gi,q * 5 + 4,none⟩,.int .i64 z)] MI ?_ (fun w4 MD fV => ?_)
     ·intro v hv
      simp only [List.mem_cons,List.not_mem_nil,or_false] at hv
      rcases hv with rfl | rfl | rfl | rfl | rfl | rfl | rfl | rfl
      ·exact bY MI.out 0 rfl
      ·exact MI.out.elem 0 rfl (i:=0) rfl (by decide) 0 rfl
      ·exact bY MI.out 3 rfl
      ·exact MI.out.elem 4 rfl hx1 hqi 0 rfl
      ·exact MI.out.elem 4 rfl hx1 hqi 1 rfl
      ·exact MI.out.elem 4 rfl hx1 hqi 2 rfl
      ·exact MI.out.elem 4 rfl hx1 hqi 3 rfl
      ·exact MI.out.elem 4 rfl hx1 hqi 4 rfl
     clear MI
     refine kP 0 75 (.pointer (some ⟨gr,0,none⟩)) ?_
     simp only [Act.put,bF,bH,bG]
     refine kP 1 76 (.pointer (some ⟨gr,0,none⟩)) ?_
     simp only [Act.put,bF,bH,bG]
     refine kP 2 77 (.pointer (some ⟨gr,0,none⟩)) ?_
     simp only [Act.put,bF,bH,bG]
     refine kP 3 78 (.pointer (some ⟨gr,0,none⟩)) ?_
     simp only [Act.put,bF,bH,bG]
     refine kE fV 4 79 0 ?_
     simp only [Act.put,bF,bH,bG]
     refine kP 5 80 (.pointer (some ⟨g3,0,none⟩)) ?_
     simp only [Act.put,bF,bH,bG]
     refine kE fV 6 81 1 ?_
     simp only [Act.put,bF,bH,bG]
     refine kP 7 82 (.pointer (some ⟨gr,0,none⟩)) ?_
     simp only [Act.put,bF,bH,bG]
     refine kP 8 83 (.pointer (some ⟨gr,0,none⟩)) ?_
     simp only [Act.put,bF,bH,bG]
     refine kP 9 84 (.pointer (some ⟨gr,3,none⟩)) ?_
     simp only [Act.put,bF,bH,bG]
     refine kE fV 10 85 2 ?_
     simp only [Act.put,bF,bH,bG]
     refine kP 11 86 (.pointer (some ⟨g3,0,none⟩)) ?_
     simp only [Act.put,bF,bH,bG]
     refine kE fV 12 87 1 ?_
     simp only [Act.put,bF,bH,bG]
     refine kP 13 88 (.pointer (some ⟨gi,q * 5,none⟩)) ?_
     simp only [Act.put,bF,bH,bG]
     refine kM fV 14 89 gi (q * 5) [Value.int .i64 a0,.int .i64 a1,.int .i64 a2,.int .i64 a3,.int .i64 z] Tryz.underlying70 (fun j u hj => by rcases j with _ | _ | _ | _ | _ | j <;> simp at hj <;> subst hj <;> simp) ?_
     simp only [Act.put,bF,bH,bG]
     refine kR [15] ?_
     refine kK 15 90 Tryz.func64 #[.agg [Value.int .i64 a0,.int .i64 a1,.int .i64 a2,.int .i64 a3,.int .i64 z].toArray] ((Vt.out _).mono ?_) aK.nil
     rintro e' w5 ⟨rfl,hb5⟩
     refine ⟨_,rfl,fV.out.below hb5,?_⟩
     have ME:=ah.mk (MD.out.call hb5)
     have D9:=ah.mk (fV.out.below hb5)
     clear MD fV hb5
     simp only [Act.put,bF,bH,bG]
     refine kP 16 74 (.tuple #[.int .u32 (rM [a0,a1,a2,a3,z]),.int .i64 re]) ?_
     simp only [Act.put,bF,bH,bG]
     refine kP 17 91 (.int .u32 (rM [a0,a1,a2,a3,z])) ?_
     simp only [Act.put,bF,bH,bG]
     refine kP 18 92 (.int .i64 re) ?_
     simp only [Act.put,bF,bH,bG]
     refine kP 19 93 (.pointer (some ⟨gc,q,none⟩)) ?_
     simp only [Act.put,bF,bH,bG]
     have MF:=ah.mk (bf.front ME.out 1 rfl)
     clear ME
     refine kR [20] ?_
     refine kSi MF 20 39 (.tmp 93) q (rM [a0,a1,a2,a3,z]) hqc ?_ aK.nil
     clear MF D9
     intro w6 MG
     refine iG ?_
     have MJ:=ah.mk ((CQ (h:=⟨.slice (some ⟨gc,0,none⟩) nc cc,vf,vt,.slice (some ⟨gi,0,none⟩) ni ci,vo,.slice (some ⟨gu,0,none⟩) nu cu,gf,gt,gl,of,ot,ol,vs⟩) (s:={ s2 with ins:=s2.ins.set q [a0,a1,a2,a3,z] }) (bf.back 1 (by show 1 < (_ :: dO _ _).length; simp [dO]) MG.out)).fQ Mem.tail)
     clear MG
     have MZ:=ah.mk (dX.mk (k:=k) (s:={ s2 with ins:=s2.ins.set q [a0,a1,a2,a3,z],code:=s2.code.set q (rM [a0,a1,a2,a3,z]) }) (h:=⟨.slice (some ⟨gc,0,none⟩) nc cc,vf,vt,.slice (some ⟨gi,0,none⟩) ni ci,vo,.slice (some ⟨gu,0,none⟩) nu cu,gf,gt,gl,of,ot,ol,vs⟩) MJ.out (vO.fin rF.out q _ _) ⟨fU.out.f,fU.out.t,fU.out.l⟩ iK.out)
     clear MJ
     go_wp2
     go_roundw
     case rel =>
      refine ⟨i + 1,{ s2 with ins:=s2.ins.set q [a0,a1,a2,a3,z],code:=s2.code.set q (rM [a0,a1,a2,a3,z]) },by have:=JY.out; omega,by rw [W1.out],HUS.out,by show (s2.ins.set _ _).length = _; rw [List.length_set]; exact Qo.out,by show (s2.code.set _ _).length = _; rw [List.length_set]; exact Oa.out,by rw [← wE HY.out]; exact HU2.out.patch q z,by rw [← Vg.out,HDR.out,Yp.out],MZ.out⟩
     case measure => exact meas JY.out W1.out
  have aaX:=hop
  clear hop
  by_cases TJ : op = 34
  ·have hop:=TJ
   clear TJ
   have HOP:=Lib.hid hop
   have b20 : (op == 20) = false:=by rw [hop]; rfl
   have b22 : (op == 22) = false:=by rw [hop]; rfl
   have b34 : (op == 34) = true:=by rw [hop]; rfl
   clear hop
   go_wp2_with (first
    | ((with_reducible refine bI (N:=14) rfl ?_); refine wpList_load_mid rfl 111 (.tmp 13) rfl gu (i * 5) rfl [Value.int .i64 (q : Int),.int .i64 fn,.int .i64 ln,.int .i64 op,.string nm] _ (fun j u hj => hrg j u hj) Tryz.underlying111 rfl (by kernel_rfl) ?_)
    | ((with_reducible refine bI (N:=3) rfl ?_); refine fBr (ah.mk M1.out.mem) 3 [.int .i64 0,.int .i64 0,.int .i64 0,.int .i64 0,.string ByteArray.empty] 111 (by intro q hq; simp at hq; rcases hq with rfl | rfl <;> rfl) (by decide) ?_; clear M1; intro g3 W2 M2)
    | ((with_reducible refine aU (t:=111) (p:=3) rfl ?_); refine fE M2 111 (.tmp 3) 0 0 (.agg [Value.int .i64 (q : Int),.int .i64 fn,.int .i64 ln,.int .i64 op,.string nm].toArray) [Value.int .i64 (q : Int),.int .i64 fn,.int .i64 ln,.int .i64 op,.string nm] [.int .i64 0,.int .i64 0,.int .i64 0,.int .i64 0,.string ByteArray.empty] (by decide) rfl ?_ rfl (by intro q hq; simp at hq; rcases hq with rfl | rfl | rfl | rfl | rfl <;> rfl) (Nat.le_refl 5) rfl; clear M2; intro W3 M3; have z3 : W3.cell? ⟨g3,3,none⟩ = some (.int .i64 op):=M3.out.elem 0 rfl (i:=0) rfl (by decide) 3 rfl))
   have M5:=ah.mk (show bf vk w0 W3 _ _ (⟨Kd.raw 5,111,.slice (some ⟨g3,0,none⟩) 1 1,[[Value.int .i64 (q : Int),.int .i64 fn,.int .i64 ln,.int .i64 op,.string nm]]⟩ :: _) from M3.out)
   clear M3
   have hlk : ∀ j,(Instr.lookup 49 (.map (some gt)) (.string nm) true).run Tryz.prog (W3.drewN j) = .ok (.tuple #[.int .i64 ((s2.tm nm).getD 0),.bool (s2.tm nm).isSome]) (W3.drewN j):=fun j => fU.out.t.look NU (by kernel_rfl) (by kernel_rfl) ((M5.out.drewN j).fix 1 _ rfl).1 (zero3 _) nm (Bz (by unfold maxLen; omega))
   have x4 : W3.cell? ⟨gr,5,none⟩ = some (.map (some gt)):=bY M5.out 5 rfl
   have z4 : W3.cell? ⟨g3,4,none⟩ = some (.string nm):=M5.out.elem 0 rfl (i:=0) rfl (by decide) 4 rfl
   have z1 : W3.cell? ⟨g3,1,none⟩ = some (.int .i64 fn):=M5.out.elem 0 rfl (i:=0) rfl (by decide) 1 rfl
   have Iu:=Lib.hid (Q5 (s:=s2) (q:=q) (fn:=fn) (ln:=ln) (nm:=nm) HOP.out)
   cases hso : (s2.tm nm).isSome with
   | false =>
    rw [hso] at hlk
    have HST:=Lib.hid (rW (r:=s.uses.drop (i + 1)) (show (s2.qV ([(q : Int),fn,ln,op],nm)).isSome = false ∨ _ from .inl (by rw [Iu.out]; exact hso)))
    go_quiet (fail)
    have M6:=ah.mk (M5.out.call (aj (Below.refl _ _) nq))
    clear M5 hlk x4 z1 z3 z4 hso
    revert M6
    generalize W3.drewN nq = w9
    intro M6
    have z2 : w9.cell? ⟨g3,2,none⟩ = some (.int .i64 ln):=M6.out.elem 0 rfl (i:=0) rfl (by decide) 2 rfl
    have BJ:=Lib.hid (tq (dX.mk (M6.out.fQ Mem.tail) rF.out fU.out iK.out) SS.out 71 ln)
    go_wp2_with fail
    refine BJ.out.mono ?_
    rintro e w10 ⟨rfl,M7⟩
    have M8:=ah.mk M7
    clear M7 M6 z2
    go_wp2
    go_returns
    exact ⟨rfl,by rw [← Vg.out,HDR.out,HST.out]; exact M8.out⟩
   | true =>
    rw [hso] at hlk
    obtain ⟨z,hz⟩ : ∃ z,(s2.tm nm).getD 0 = z:=⟨_,rfl⟩
    by_cases hbig : z > 65535
    ·have HST:=Lib.hid (rW (r:=s.uses.drop (i + 1)) (show _ ∨ (s2.qV ([(q : Int),fn,ln,op],nm)).getD 0 > 65535 from .inr (by rw [Iu.out,hz]; exact hbig)))
     rw [hz] at hlk
     have d1 : decide (z > 65535) = true:=decide_eq_true hbig
     have d2 : decide (65535 < z) = true:=decide_eq_true hbig
     clear hbig hz
     go_quiet (fail)
     have M6:=ah.mk (M5.out.call (aj (Below.refl _ _) nq))
     clear M5 hlk x4 z1 z3 z4 hso
     revert M6
     generalize W3.drewN nq = w9
     intro M6
     have z2 : w9.cell? ⟨g3,2,none⟩ = some (.int .i64 ln):=M6.out.elem 0 rfl (i:=0) rfl (by decide) 2 rfl
     have BJ:=Lib.hid (tq (dX.mk (M6.out.fQ Mem.tail) rF.out fU.out iK.out) SS.out 71 ln)
     go_wp2_with fail
     refine BJ.out.mono ?_
     rintro e w10 ⟨rfl,M7⟩
     have M8:=ah.mk M7
     clear M7 M6 z2
     go_wp2
     go_returns
     exact ⟨rfl,by rw [← Vg.out,HDR.out,HST.out]; exact M8.out⟩
    ·have Yp:=Lib.hid (show s2.qN (([(q : Int),fn,ln,op],nm) :: s.uses.drop (i + 1)) = St.qN { s2 with ins:=s2.ins.set q [a0,a1,a2,a3,z],code:=s2.code.set q (rM [a0,a1,a2,a3,z]) } (s.uses.drop (i + 1)) by
      rw [EO (by rw [Iu.out]; exact hso) (by rw [Iu.out,hz]; exact hbig),Iu.out,hz,← wE HY.out]; rfl)
     rw [hz] at hlk
     have d1 : decide (z > 65535) = false:=decide_eq_false hbig
     have d2 : decide (65535 < z) = false:=decide_eq_false hbig
     obtain ⟨re,hre⟩:=BQ a0 a1 a2 a3 z
     have Vt:=Lib.hid (fun W => iH.calls a0 a1 a2 a3 z _ _ W hre)
     clear hbig hz hre
     go_quiet (fail)
     have M6:=ah.mk (M5.out.call (aj (Below.refl _ _) nq))
     clear M5 hlk x4 z1 z3 z4 hso
     revert M6
     generalize W3.drewN nq = w9
     intro M6
     go_wp2_with fail
     refine gQ [9] [(⟨gr,3,none⟩,.slice (some ⟨gi,0,none⟩) ni ci),(⟨g3,0,none⟩,.int .i64 (q : Int))] M6 ?_ (fun Qg MD fV => ?_)
     ·intro v hv
      simp only [List.mem_cons,List.not_mem_nil,or_false] at hv
      rcases hv with rfl | rfl
      ·exact bY M6.out 3 rfl
      ·exact M6.out.elem 0 rfl (i:=0) rfl (by decide) 0 rfl
     clear M6
     refine kP 0 65 (.pointer (some ⟨gr,0,none⟩)) ?_
     simp only [Act.put,bF,bH,bG]
     refine kP 1 66 (.pointer (some ⟨gr,0,none⟩)) ?_
     simp only [Act.put,bF,bH,bG]
     refine kP 2 67 (.pointer (some ⟨gr,3,none⟩)) ?_
     simp only [Act.put,bF,bH,bG]
     refine kE fV 3 68 0 ?_
     simp only [Act.put,bF,bH,bG]
     refine kP 4 69 (.pointer (some ⟨g3,0,none⟩)) ?_
     simp only [Act.put,bF,bH,bG]
     refine kE fV 5 70 1 ?_
     simp only [Act.put,bF,bH,bG]
     refine kP 6 71 (.int .i64 z) ?_
     simp only [Act.put,bF,bH,bG]
     refine kP 7 72 (.pointer (some ⟨gi,q * 5,none⟩)) ?_
     simp only [Act.put,bF,bH,bG]
     refine kP 8 73 (.pointer (some ⟨gi,q * 5 + 4,none⟩)) ?_
     simp only [Act.put,bF,bH,bG]
     have MF:=ah.mk (bf.front MD.out 4 rfl)
     clear MD
     refine kR [9] ?_
     refine Xo MF 9 3 (.tmp 73) q 4 (.int .i64 z) [.int .i64 z] [Value.int .i64 a0,.int .i64 a1,.int .i64 a2,.int .i64 a3,.int .i64 a4] hqi hx0 ?_ rfl (by intro q hq; rw [List.mem_singleton] at hq; subst hq; rfl) (Nat.le_refl 5) aK.nil rfl
     clear MF fV
     intro w3 MG
     refine iG ?_
     have MI:=ah.mk (BU (s:=s2) (op:=a0) (a:=a1) (b:=a2) (c:=a3) (jC:=z) (x0:=[Value.int .i64 a0,.int .i64 a1,.int .i64 a2,.int .i64 a3,.int .i64 a4]) rfl MG.out)
     clear MG
     go_wp2_with fail
     have hx1 : ((s2.ins.set q [a0,a1,a2,a3,z]).map ints)[q]? = some (ints [a0,a1,a2,a3,z]):=by rw [List.getElem?_map,List.getElem?_set_self (by rw [Qo.out]; exact hqi)]; rfl
     refine gQ [20] [(⟨gr,0,none⟩,.slice (some ⟨gc,0,none⟩) nc cc),(⟨g3,0,none⟩,.int .i64 (q : Int)),(⟨gr,3,none⟩,.slice (some ⟨gi,0,none⟩) ni ci),(⟨gi,q * 5 + 0,none⟩,.int .i64 a0),(⟨gi,q * 5 + 1,none⟩,.int .i64 a1),(⟨gi,q * 5 + 2,none⟩,.int .i64 a2),(⟨gi,q * 5 + 3,none⟩,.int .i64 a3),(⟨gi,q * 5 + 4,none⟩,.int .i64 z)] MI ?_ (fun w4 MD fV => ?_)
     ·intro v hv
      simp only [List.mem_cons,List.not_mem_nil,or_false] at hv
      rcases hv with rfl | rfl | rfl | rfl | rfl | rfl | rfl | rfl
      ·exact bY MI.out 0 rfl
      ·exact MI.out.elem 0 rfl (i:=0) rfl (by decide) 0 rfl
      ·exact bY MI.out 3 rfl
      ·exact MI.out.elem 4 rfl hx1 hqi 0 rfl
      ·exact MI.out.elem 4 rfl hx1 hqi 1 rfl
      ·exact MI.out.elem 4 rfl hx1 hqi 2 rfl
      ·exact MI.out.elem 4 rfl hx1 hqi 3 rfl
      ·exact MI.out.elem 4 rfl hx1 hqi 4 rfl
     clear MI
     refine kP 0 75 (.pointer (some ⟨gr,0,none⟩)) ?_
     simp only [Act.put,bF,bH,bG]
     refine kP 1 76 (.pointer (some ⟨gr,0,none⟩)) ?_
     simp only [Act.put,bF,bH,bG]
     refine kP 2 77 (.pointer (some ⟨gr,0,none⟩)) ?_
     simp only [Act.put,bF,bH,bG]
     refine kP 3 78 (.pointer (some ⟨gr,0,none⟩)) ?_
     simp only [Act.put,bF,bH,bG]
     refine kE fV 4 79 0 ?_
     simp only [Act.put,bF,bH,bG]
     refine kP 5 80 (.pointer (some ⟨g3,0,none⟩)) ?_
     simp only [Act.put,bF,bH,bG]
     refine kE fV 6 81 1 ?_
     simp only [Act.put,bF,bH,bG]
     refine kP 7 82 (.pointer (some ⟨gr,0,none⟩)) ?_
     simp only [Act.put,bF,bH,bG]
     refine kP 8 83 (.pointer (some ⟨gr,0,none⟩)) ?_
     simp only [Act.put,bF,bH,bG]
     refine kP 9 84 (.pointer (some ⟨gr,3,none⟩)) ?_
     simp only [Act.put,bF,bH,bG]
     refine kE fV 10 85 2 ?_
     simp only [Act.put,bF,bH,bG]
     refine kP 11 86 (.pointer (some ⟨g3,0,none⟩)) ?_
     simp only [Act.put,bF,bH,bG]
     refine kE fV 12 87 1 ?_
     simp only [Act.put,bF,bH,bG]
     refine kP 13 88 (.pointer (some ⟨gi,q * 5,none⟩)) ?_
     simp only [Act.put,bF,bH,bG]
     refine kM fV 14 89 gi (q * 5) [Value.int .i64 a0,.int .i64 a1,.int .i64 a2,.int .i64 a3,.int .i64 z] Tryz.underlying70 (fun j u hj => by rcases j with _ | _ | _ | _ | _ | j <;> simp at hj <;> subst hj <;> simp) ?_
     simp only [Act.put,bF,bH,bG]
     refine kR [15] ?_
     refine kK 15 90 Tryz.func64 #[.agg [Value.int .i64 a0,.int .i64 a1,.int .i64 a2,.int .i64 a3,.int .i64 z].toArray] ((Vt.out _).mono ?_) aK.nil
     rintro e' w5 ⟨rfl,hb5⟩
     refine ⟨_,rfl,fV.out.below hb5,?_⟩
     have ME:=ah.mk (MD.out.call hb5)
     have D9:=ah.mk (fV.out.below hb5)
     clear MD fV hb5
     simp only [Act.put,bF,bH,bG]
     refine kP 16 74 (.tuple #[.int .u32 (rM [a0,a1,a2,a3,z]),.int .i64 re]) ?_
     simp only [Act.put,bF,bH,bG]
     refine kP 17 91 (.int .u32 (rM [a0,a1,a2,a3,z])) ?_
     simp only [Act.put,bF,bH,bG]
     refine kP 18 92 (.int .i64 re) ?_
     simp only [Act.put,bF,bH,bG]
     refine kP 19 93 (.pointer (some ⟨gc,q,none⟩)) ?_
     simp only [Act.put,bF,bH,bG]
     have MF:=ah.mk (bf.front ME.out 1 rfl)
     clear ME
     refine kR [20] ?_
     refine kSi MF 20 39 (.tmp 93) q (rM [a0,a1,a2,a3,z]) hqc ?_ aK.nil
     clear MF D9
     intro w6 MG
     refine iG ?_
     have MJ:=ah.mk ((CQ (h:=⟨.slice (some ⟨gc,0,none⟩) nc cc,vf,vt,.slice (some ⟨gi,0,none⟩) ni ci,vo,.slice (some ⟨gu,0,none⟩) nu cu,gf,gt,gl,of,ot,ol,vs⟩) (s:={ s2 with ins:=s2.ins.set q [a0,a1,a2,a3,z] }) (bf.back 1 (by show 1 < (_ :: dO _ _).length; simp [dO]) MG.out)).fQ Mem.tail)
     clear MG
     have MZ:=ah.mk (dX.mk (k:=k) (s:={ s2 with ins:=s2.ins.set q [a0,a1,a2,a3,z],code:=s2.code.set q (rM [a0,a1,a2,a3,z]) }) (h:=⟨.slice (some ⟨gc,0,none⟩) nc cc,vf,vt,.slice (some ⟨gi,0,none⟩) ni ci,vo,.slice (some ⟨gu,0,none⟩) nu cu,gf,gt,gl,of,ot,ol,vs⟩) MJ.out (vO.fin rF.out q _ _) ⟨fU.out.f,fU.out.t,fU.out.l⟩ iK.out)
     clear MJ
     go_wp2
     go_roundw
     case rel =>
      refine ⟨i + 1,{ s2 with ins:=s2.ins.set q [a0,a1,a2,a3,z],code:=s2.code.set q (rM [a0,a1,a2,a3,z]) },by have:=JY.out; omega,by rw [W1.out],HUS.out,by show (s2.ins.set _ _).length = _; rw [List.length_set]; exact Qo.out,by show (s2.code.set _ _).length = _; rw [List.length_set]; exact Oa.out,by rw [← wE HY.out]; exact HU2.out.patch q z,by rw [← Vg.out,HDR.out,Yp.out],MZ.out⟩
     case measure => exact meas JY.out W1.out
  have HOP:=Lib.hid (show op ≠ 20 ∧ op ≠ 22 ∧ op ≠ 34 from ⟨aaW,aaX,TJ⟩)
  have b20 : (op == 20) = false:=beq_eq_false_iff_ne.mpr aaW
  have b22 : (op == 22) = false:=beq_eq_false_iff_ne.mpr aaX
  have b34 : (op == 34) = false:=beq_eq_false_iff_ne.mpr TJ
  go_wp2_with (first
   | ((with_reducible refine bI (N:=14) rfl ?_); refine wpList_load_mid rfl 111 (.tmp 13) rfl gu (i * 5) rfl [Value.int .i64 (q : Int),.int .i64 fn,.int .i64 ln,.int .i64 op,.string nm] _ (fun j u hj => hrg j u hj) Tryz.underlying111 rfl (by kernel_rfl) ?_)
   | ((with_reducible refine bI (N:=3) rfl ?_); refine fBr (ah.mk M1.out.mem) 3 [.int .i64 0,.int .i64 0,.int .i64 0,.int .i64 0,.string ByteArray.empty] 111 (by intro q hq; simp at hq; rcases hq with rfl | rfl <;> rfl) (by decide) ?_; clear M1; intro g3 W2 M2)
   | ((with_reducible refine aU (t:=111) (p:=3) rfl ?_); refine fE M2 111 (.tmp 3) 0 0 (.agg [Value.int .i64 (q : Int),.int .i64 fn,.int .i64 ln,.int .i64 op,.string nm].toArray) [Value.int .i64 (q : Int),.int .i64 fn,.int .i64 ln,.int .i64 op,.string nm] [.int .i64 0,.int .i64 0,.int .i64 0,.int .i64 0,.string ByteArray.empty] (by decide) rfl ?_ rfl (by intro q hq; simp at hq; rcases hq with rfl | rfl | rfl | rfl | rfl <;> rfl) (Nat.le_refl 5) rfl; clear M2; intro W3 M3; have z3 : W3.cell? ⟨g3,3,none⟩ = some (.int .i64 op):=M3.out.elem 0 rfl (i:=0) rfl (by decide) 3 rfl))
  have M5:=ah.mk (show bf vk w0 W3 _ _ (⟨Kd.raw 5,111,.slice (some ⟨g3,0,none⟩) 1 1,[[Value.int .i64 (q : Int),.int .i64 fn,.int .i64 ln,.int .i64 op,.string nm]]⟩ :: _) from M3.out)
  clear M3
  have hlk : ∀ j,(Instr.lookup 50 (.map (some gl)) (.agg #[.int .i64 fn,.string nm]) true).run Tryz.prog (W3.drewN j) = .ok (.tuple #[.int .i64 ((s2.lm (fn,nm)).getD 0),.bool (s2.lm (fn,nm)).isSome]) (W3.drewN j):=fun j => fU.out.l.look QV (by kernel_rfl) (by kernel_rfl) ((M5.out.drewN j).fix 2 _ rfl).1 (zero3 _) (fn,nm) HKL.out
  have x4 : W3.cell? ⟨gr,6,none⟩ = some (.map (some gl)):=bY M5.out 6 rfl
  have z4 : W3.cell? ⟨g3,4,none⟩ = some (.string nm):=M5.out.elem 0 rfl (i:=0) rfl (by decide) 4 rfl
  have z1 : W3.cell? ⟨g3,1,none⟩ = some (.int .i64 fn):=M5.out.elem 0 rfl (i:=0) rfl (by decide) 1 rfl
  have Iu:=Lib.hid (QZ (s:=s2) (q:=q) (fn:=fn) (ln:=ln) (nm:=nm) HOP.out)
  cases hso : (s2.lm (fn,nm)).isSome with
  | false =>
   rw [hso] at hlk
   have HST:=Lib.hid (rW (r:=s.uses.drop (i + 1)) (show (s2.qV ([(q : Int),fn,ln,op],nm)).isSome = false ∨ _ from .inl (by rw [Iu.out]; exact hso)))
   go_quiet (fail)
   have M6:=ah.mk (M5.out.call (aj (Below.refl _ _) nq))
   clear M5 hlk x4 z1 z3 z4 hso
   revert M6
   generalize W3.drewN nq = w9
   intro M6
   have z2 : w9.cell? ⟨g3,2,none⟩ = some (.int .i64 ln):=M6.out.elem 0 rfl (i:=0) rfl (by decide) 2 rfl
   have BJ:=Lib.hid (tq (dX.mk (M6.out.fQ Mem.tail) rF.out fU.out iK.out) SS.out 71 ln)
   go_wp2_with fail
   refine BJ.out.mono ?_
   rintro e w10 ⟨rfl,M7⟩
   have M8:=ah.mk M7
   clear M7 M6 z2
   go_wp2
   go_returns
   exact ⟨rfl,by rw [← Vg.out,HDR.out,HST.out]; exact M8.out⟩
  | true =>
   rw [hso] at hlk
   obtain ⟨z,hz⟩ : ∃ z,(s2.lm (fn,nm)).getD 0 = z:=⟨_,rfl⟩
   by_cases hbig : z > 65535
   ·have HST:=Lib.hid (rW (r:=s.uses.drop (i + 1)) (show _ ∨ (s2.qV ([(q : Int),fn,ln,op],nm)).getD 0 > 65535 from .inr (by rw [Iu.out,hz]; exact hbig)))
    rw [hz] at hlk
    have d1 : decide (z > 65535) = true:=decide_eq_true hbig
    have d2 : decide (65535 < z) = true:=decide_eq_true hbig
    clear hbig hz
    go_quiet (fail)
    have M6:=ah.mk (M5.out.call (aj (Below.refl _ _) nq))
    clear M5 hlk x4 z1 z3 z4 hso
    revert M6
    generalize W3.drewN nq = w9
    intro M6
    have z2 : w9.cell? ⟨g3,2,none⟩ = some (.int .i64 ln):=M6.out.elem 0 rfl (i:=0) rfl (by decide) 2 rfl
    have BJ:=Lib.hid (tq (dX.mk (M6.out.fQ Mem.tail) rF.out fU.out iK.out) SS.out 71 ln)
    go_wp2_with fail
    refine BJ.out.mono ?_
    rintro e w10 ⟨rfl,M7⟩
    have M8:=ah.mk M7
    clear M7 M6 z2
    go_wp2
    go_returns
    exact ⟨rfl,by rw [← Vg.out,HDR.out,HST.out]; exact M8.out⟩
   ·have Yp:=Lib.hid (show s2.qN (([(q : Int),fn,ln,op],nm) :: s.uses.drop (i + 1)) = St.qN { s2 with ins:=s2.ins.set q [a0,a1,a2,a3,z],code:=s2.code.set q (rM [a0,a1,a2,a3,z]) } (s.uses.drop (i + 1)) by
     rw [EO (by rw [Iu.out]; exact hso) (by rw [Iu.out,hz]; exact hbig),Iu.out,hz,← wE HY.out]; rfl)
    rw [hz] at hlk
    have d1 : decide (z > 65535) = false:=decide_eq_false hbig
    have d2 : decide (65535 < z) = false:=decide_eq_false hbig
    obtain ⟨re,hre⟩:=BQ a0 a1 a2 a3 z
    have Vt:=Lib.hid (fun W => iH.calls a0 a1 a2 a3 z _ _ W hre)
    clear hbig hz hre
    go_quiet (fail)
    have M6:=ah.mk (M5.out.call (aj (Below.refl _ _) nq))
    clear M5 hlk x4 z1 z3 z4 hso
    revert M6
    generalize W3.drewN nq = w9
    intro M6
    go_wp2_with fail
    refine gQ [9] [(⟨gr,3,none⟩,.slice (some ⟨gi,0,none⟩) ni ci),(⟨g3,0,none⟩,.int .i64 (q : Int))] M6 ?_ (fun Qg MD fV => ?_)
    ·intro v hv
     simp only [List.mem_cons,List.not_mem_nil,or_false] at hv
     rcases hv with rfl | rfl
     ·exact bY M6.out 3 rfl
     ·exact M6.out.elem 0 rfl (i:=0) rfl (by decide) 0 rfl
    clear M6
    refine kP 0 65 (.pointer (some ⟨gr,0,none⟩)) ?_
    simp only [Act.put,bF,bH,bG]
    refine kP 1 66 (.pointer (some ⟨gr,0,none⟩)) ?_
    simp only [Act.put,bF,bH,bG]
    refine kP 2 67 (.pointer (some ⟨gr,3,none⟩)) ?_
    simp only [Act.put,bF,bH,bG]
    refine kE fV 3 68 0 ?_
    simp only [Act.put,bF,bH,bG]
    refine kP 4 69 (.pointer (some ⟨g3,0,none⟩)) ?_
    simp only [Act.put,bF,bH,bG]
    refine kE fV 5 70 1 ?_
    simp only [Act.put,bF,bH,bG]
    refine kP 6 71 (.int .i64 z) ?_
    simp only [Act.put,bF,bH,bG]
    refine kP 7 72 (.pointer (some ⟨gi,q * 5,none⟩)) ?_
    simp only [Act.put,bF,bH,bG]
    refine kP 8 73 (.pointer (some ⟨gi,q * 5 + 4,none⟩)) ?_
    simp only [Act.put,bF,bH,bG]
    have MF:=ah.mk (bf.front MD.out 4 rfl)
    clear MD
    refine kR [9] ?_
    refine Xo MF 9 3 (.tmp 73) q 4 (.int .i64 z) [.int .i64 z] [Value.int .i64 a0,.int .i64 a1,.int .i64 a2,.int .i64 a3,.int .i64 a4] hqi hx0 ?_ rfl (by intro q hq; rw [List.mem_singleton] at hq; subst hq; rfl) (Nat.le_refl 5) aK.nil rfl
    clear MF fV
    intro w3 MG
    refine iG ?_
    have MI:=ah.mk (BU (s:=s2) (op:=a0) (a:=a1) (b:=a2) (c:=a3) (jC:=z) (x0:=[Value.int .i64 a0,.int .i64 a1,.int .i64 a2,.int .i64 a3,.int .i64 a4]) rfl MG.out)
    clear MG
    go_wp2_with fail
    have hx1 : ((s2.ins.set q [a0,a1,a2,a3,z]).map ints)[q]? = some (ints [a0,a1,a2,a3,z]):=by rw [List.getElem?_map,List.getElem?_set_self (by rw [Qo.out]; exact hqi)]; rfl
    refine gQ [20] [(⟨gr,0,none⟩,.slice (some ⟨gc,0,none⟩) nc cc),(⟨g3,0,none⟩,.int .i64 (q : Int)),(⟨gr,3,none⟩,.slice (some ⟨gi,0,none⟩) ni ci),(⟨gi,q * 5 + 0,none⟩,.int .i64 a0),(⟨gi,q * 5 + 1,none⟩,.int .i64 a1),(⟨gi,q * 5 + 2,none⟩,.int .i64 a2),(⟨gi,q * 5 + 3,none⟩,.int .i64 a3),(⟨gi,q * 5 + 4,none⟩,.int .i64 z)] MI ?_ (fun w4 MD fV => ?_)
    ·intro v hv
     simp only [List.mem_cons,List.not_mem_nil,or_false] at hv
     rcases hv with rfl | rfl | rfl | rfl | rfl | rfl | rfl | rfl
     ·exact bY MI.out 0 rfl
     ·exact MI.out.elem 0 rfl (i:=0) rfl (by decide) 0 rfl
     ·exact bY MI.out 3 rfl
     ·exact MI.out.elem 4 rfl hx1 hqi 0 rfl
     ·exact MI.out.elem 4 rfl hx1 hqi 1 rfl
     ·exact MI.out.elem 4 rfl hx1 hqi 2 rfl
     ·exact MI.out.elem 4 rfl hx1 hqi 3 rfl
     ·exact MI.out.elem 4 rfl hx1 hqi 4 rfl
    clear MI
    refine kP 0 75 (.pointer (some ⟨gr,0,none⟩)) ?_
    simp only [Act.put,bF,bH,bG]
    refine kP 1 76 (.pointer (some ⟨gr,0,none⟩)) ?_
    simp only [Act.put,bF,bH,bG]
    refine kP 2 77 (.pointer (some ⟨gr,0,none⟩)) ?_
    simp only [Act.put,bF,bH,bG]
    refine kP 3 78 (.pointer (some ⟨gr,0,none⟩)) ?_
    simp only [Act.put,bF,bH,bG]
    refine kE fV 4 79 0 ?_
    simp only [Act.put,bF,bH,bG]
    refine kP 5 80 (.pointer (some ⟨g3,0,none⟩)) ?_
    simp only [Act.put,bF,bH,bG]
    refine kE fV 6 81 1 ?_
    simp only [Act.put,bF,bH,bG]
    refine kP 7 82 (.pointer (some ⟨gr,0,none⟩)) ?_
    simp only [Act.put,bF,bH,bG]
    refine kP 8 83 (.pointer (some ⟨gr,0,none⟩)) ?_
    simp only [Act.put,bF,bH,bG]
    refine kP 9 84 (.pointer (some ⟨gr,3,none⟩)) ?_
    simp only [Act.put,bF,bH,bG]
    refine kE fV 10 85 2 ?_
    simp only [Act.put,bF,bH,bG]
    refine kP 11 86 (.pointer (some ⟨g3,0,none⟩)) ?_
    simp only [Act.put,bF,bH,bG]
    refine kE fV 12 87 1 ?_
    simp only [Act.put,bF,bH,bG]
    refine kP 13 88 (.pointer (some ⟨gi,q * 5,none⟩)) ?_
    simp only [Act.put,bF,bH,bG]
    refine kM fV 14 89 gi (q * 5) [Value.int .i64 a0,.int .i64 a1,.int .i64 a2,.int .i64 a3,.int .i64 z] Tryz.underlying70 (fun j u hj => by rcases j with _ | _ | _ | _ | _ | j <;> simp at hj <;> subst hj <;> simp) ?_
    simp only [Act.put,bF,bH,bG]
    refine kR [15] ?_
    refine kK 15 90 Tryz.func64 #[.agg [Value.int .i64 a0,.int .i64 a1,.int .i64 a2,.int .i64 a3,.int .i64 z].toArray] ((Vt.out _).mono ?_) aK.nil
    rintro e' w5 ⟨rfl,hb5⟩
    refine ⟨_,rfl,fV.out.below hb5,?_⟩
    have ME:=ah.mk (MD.out.call hb5)
    have D9:=ah.mk (fV.out.below hb5)
    clear MD fV hb5
    simp only [Act.put,bF,bH,bG]
    refine kP 16 74 (.tuple #[.int .u32 (rM [a0,a1,a2,a3,z]),.int .i64 re]) ?_
    simp only [Act.put,bF,bH,bG]
    refine kP 17 91 (.int .u32 (rM [a0,a1,a2,a3,z])) ?_
    simp only [Act.put,bF,bH,bG]
    refine kP 18 92 (.int .i64 re) ?_
    simp only [Act.put,bF,bH,bG]
    refine kP 19 93 (.pointer (some ⟨gc,q,none⟩)) ?_
    simp only [Act.put,bF,bH,bG]
    have MF:=ah.mk (bf.front ME.out 1 rfl)
    clear ME
    refine kR [20] ?_
    refine kSi MF 20 39 (.tmp 93) q (rM [a0,a1,a2,a3,z]) hqc ?_ aK.nil
    clear MF D9
    intro w6 MG
    refine iG ?_
    have MJ:=ah.mk ((CQ (h:=⟨.slice (some ⟨gc,0,none⟩) nc cc,vf,vt,.slice (some ⟨gi,0,none⟩) ni ci,vo,.slice (some ⟨gu,0,none⟩) nu cu,gf,gt,gl,of,ot,ol,vs⟩) (s:={ s2 with ins:=s2.ins.set q [a0,a1,a2,a3,z] }) (bf.back 1 (by show 1 < (_ :: dO _ _).length; simp [dO]) MG.out)).fQ Mem.tail)
    clear MG
    have MZ:=ah.mk (dX.mk (k:=k) (s:={ s2 with ins:=s2.ins.set q [a0,a1,a2,a3,z],code:=s2.code.set q (rM [a0,a1,a2,a3,z]) }) (h:=⟨.slice (some ⟨gc,0,none⟩) nc cc,vf,vt,.slice (some ⟨gi,0,none⟩) ni ci,vo,.slice (some ⟨gu,0,none⟩) nu cu,gf,gt,gl,of,ot,ol,vs⟩) MJ.out (vO.fin rF.out q _ _) ⟨fU.out.f,fU.out.t,fU.out.l⟩ iK.out)
    clear MJ
    go_wp2
    go_roundw
    case rel =>
     refine ⟨i + 1,{ s2 with ins:=s2.ins.set q [a0,a1,a2,a3,z],code:=s2.code.set q (rM [a0,a1,a2,a3,z]) },by have:=JY.out; omega,by rw [W1.out],HUS.out,by show (s2.ins.set _ _).length = _; rw [List.length_set]; exact Qo.out,by show (s2.code.set _ _).length = _; rw [List.length_set]; exact Oa.out,by rw [← wE HY.out]; exact HU2.out.patch q z,by rw [← Vg.out,HDR.out,Yp.out],MZ.out⟩
    case measure => exact meas JY.out W1.out
 ·have q2 : ¬ (i : Int) < (nu : Int):=by omega
  obtain rfl : i = nu:=by omega
  have HE:=Lib.hid (show s2 = s.qN s.uses by rw [← hnl,List.drop_eq_nil_of_le (by have:=HNU.out; omega)]; rfl)
  clear hnl
  go_wp2
  go_returns
  exact ⟨rfl,by rw [← HE.out]; exact M1.out⟩
end
end Go.Proofs.YtdbpglhdicmhhaaGreatDoor.qp
end
