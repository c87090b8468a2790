import Derived.Test.YtdbpglhdicmhhaaGreatDoorMPr9
import Derived.Test.YtdbpglhdicmhhaaGreatDoorMPr10
import Derived.Test.YtdbpglhdicmhhaaGreatDoorMPr4
import Derived.Test.YtdbpglhdicmhhaaGreatDoorMPr11
set_option maxHeartbeats 4000000
set_option maxRecDepth 100000
set_option linter.unusedVariables false
set_option linter.unusedSimpArgs false
section
namespace Go.Proofs.YtdbpglhdicmhhaaGreatDoor.qp
open Go.RowKit Go.Shelf Go.Proofs.YtdbpglhdicmhhaaGreatDoorW.aI Go.Proofs.YtdbpglhdicmhhaaGreatDoorW.aX Go.Proofs.YtdbpglhdicmhhaaGreatDoorW.aZ iM
open Go.Proofs.YtdbpglhdicmhhaaGreatDoor.GA
def St.BH (s : St) : St:={ s with opn:=s.opn ++ [s.now] }
def St.mark (s : St) (b : ByteArray) : St × Int :=
 if Q.nameB b.data.toList = false then (s,70) else if s.idle then (s,74) else if (s.lm (s.funcs.length,b)).isSome then (s.BH,72)
 else ({ s.BH with lm:=fun y => if y = ((s.funcs.length : Int),b) then some (s.ins.length : Int) else s.lm y },0)
theorem UR {s : St} {b : ByteArray} (h : Q.nameB b.data.toList = false) : s.mark b = (s,70):=if_pos h
theorem UQ {s : St} {b : ByteArray} (h : Q.nameB b.data.toList = true) (h2 : s.idle = true) : s.mark b = (s,74):=by unfold St.mark; rw [if_neg (by rw [h]; simp),if_pos h2]
theorem QY {s : St} {b : ByteArray} (h : Q.nameB b.data.toList = true) (h2 : s.idle = false) (h3 : (s.lm (s.funcs.length,b)).isSome = true) : s.mark b = (s.BH,72):=by
 unfold St.mark; rw [if_neg (by rw [h]; simp),if_neg (by rw [h2]; simp),if_pos h3]
theorem Xx {s : St} {b : ByteArray} (h : Q.nameB b.data.toList = true) (h2 : s.idle = false) (h3 : (s.lm (s.funcs.length,b)).isSome = false) :
  s.mark b = ({ s.BH with lm:=fun y => if y = ((s.funcs.length : Int),b) then some (s.ins.length : Int) else s.lm y },0):=by
 unfold St.mark; rw [if_neg (by rw [h]; simp),if_neg (by rw [h2]; simp),if_neg (by rw [h3]; simp)]
theorem vO.mark {k : Nat} {s : St} (h : vO k s) : vO (k + 1) s.BH:=by
 have:=h.opn
 exact ⟨Nat.le_succ_of_le h.code,Nat.le_succ_of_le h.funcs,Nat.le_succ_of_le h.tabs,Nat.le_succ_of_le h.ins,by show (s.opn ++ _).length ≤ _; simp; omega,Nat.le_succ_of_le h.uses,fun t ht => Nat.le_succ_of_le (h.cs t ht)⟩
theorem dX.more {k : Nat} {w0 W : World} {gr : Nat} {l : List (Nat × Array Value × TypeId)} {h : Hd} {s : St} (M : dX k w0 W gr l h s) : dX (k + 1) w0 W gr l h s:=⟨M.mem,M.few.mono (Nat.le_succ k),M.says.mono (Nat.le_succ k),M.len⟩
theorem S9 {es : List TypeId} {w0 W : World} {x b : Nat × Array Value × TypeId} {l : List (Nat × Array Value × TypeId)} {fx : List (Nat × Obj)} {rows : List Row} (M : bf es w0 W (x :: (l ++ [b])) fx rows) : bf es w0 W (x :: l) fx rows:=by
 have:=M.forget (l.length + 1)
 rwa [show (x :: (l ++ [b])).take (l.length + 1) = x :: l by simp] at this
theorem xO {x b : Nat × Array Value × TypeId} {l : List (Nat × Array Value × TypeId)} : (x :: (l ++ [b]))[l.length + 1]? = some b:=by simp
theorem Jz {x b b' : Nat × Array Value × TypeId} {l : List (Nat × Array Value × TypeId)} : (x :: (l ++ [b])).set (l.length + 1) b' = x :: (l ++ [b']):=by simp
theorem acZ : ∀ x y : Int × ByteArray,ac0 x = ac0 y → x = y:=fun x y h => by
 obtain ⟨a,b⟩:=x; obtain ⟨c,d⟩:=y
 injection h with h
 have h1:=congrArg Array.toList h
 simp at h1
 exact Prod.ext h1.1 h1.2
theorem QV : Maps.Keyed Tryz.prog 113:=Maps.Keyed.of_law (deep_law (m:=2) (by omega) (by kernel_rfl) (by kernel_rfl) (by kernel_rfl))
theorem Xr {n : Int} {b : ByteArray} (hn : (Lit.int .i64 n).wf = true) (hb : b.size ≤ maxLen) : ∃ kl,keyOf Tryz.prog 113 (.agg #[.int .i64 n,.string b]) = some kl:=by
 unfold keyOf
 rw [Tryz.underlying113]
 have h1 : Tryz.prog.keyType 113 = true:=by kernel_rfl
 have h2 : (Value.agg #[.int .i64 n,.string b]).formed Tryz.prog 113 = true:=by kernel_rfl
 have hc : Tryz.prog.cellsOf 113 = 2:=by kernel_rfl
 have hc3 : Tryz.prog.cellsOf 3 = 1:=by kernel_rfl
 have hc9 : Tryz.prog.cellsOf 9 = 1:=by kernel_rfl
 have h3 : ∃ L,Tryz.prog.keyLits (Tryz.prog.types.size + 1) 113 (Value.agg #[.int .i64 n,.string b]).cells.toList = some L:=by
  obtain ⟨m,hm⟩ : ∃ m,Tryz.prog.types.size = m + 1:=⟨Tryz.prog.types.size - 1,by kernel_rfl⟩
  rw [hm]
  have e3 : Tryz.prog.keyLits (m + 1) 3 [.int .i64 n] = some [.int .i64 n]:=by
   unfold Program.keyLits; rw [Tryz.underlying3]
   simp [hn]
  have e9 : Tryz.prog.keyLits (m + 1) 9 [.string b] = some [.string b.data.toList]:=by
   unfold Program.keyLits; rw [Tryz.underlying9]
   simp [hb]
  refine ⟨[.int .i64 n,.string b.data.toList],?_⟩
  show Tryz.prog.keyLits (m + 1 + 1) 113 [.int .i64 n,.string b] = _
  unfold Program.keyLits; rw [Tryz.underlying113]
  simp [hc,hc3,hc9,e3,e9]
 obtain ⟨L,hL⟩:=h3
 refine ⟨.string (keyBytes L),?_⟩
 simp only [h1,h2,Bool.and_self,if_true,hL]
 rfl
section
variable {k : Nat} {w0 W : World} {gr : Nat} {l : List (Nat × Array Value × TypeId)} {h : Hd} {s : St} {b : ByteArray}
theorem Bq (M0 : dX k w0 W gr l h s) (S : Std w0) (hk : k < 262144) (hb : b.size ≤ 262144) :
  Calls Tryz.prog 61 #[.pointer (some ⟨gr,0,none⟩),.string b] W fun z w' => z = .returned (.int .i64 (s.mark b).2) ∧ ∃ h',dX (k + 1) w0 w' gr l h' (s.mark b).1:=by
 have HK:=Lib.hid hk
 have Qj:=Lib.hid hb
 have JZ:=Lib.hid (fun W => jf b hb W)
 obtain ⟨vc,vf,vt,vi,vo,vu,gf,gt,gl,of,ot,ol,vs⟩:=h
 obtain ⟨A1,c1,rfl⟩ : ∃ A c,vf = .slice A s.funcs.length c:=by
  obtain ⟨A,c,he⟩:=Kd.iy (M0.mem.mem.owns 1 _ rfl)
  exact ⟨A,c,by rw [show s.funcs.length = (s.funcs.map ints).length by simp]; exact he⟩
 obtain ⟨A3,c3,rfl⟩ : ∃ A c,vi = .slice A s.ins.length c:=by
  obtain ⟨A,c,he⟩:=Kd.iy (M0.mem.mem.owns 3 _ rfl)
  exact ⟨A,c,by rw [show s.ins.length = (s.ins.map ints).length by simp]; exact he⟩
 obtain ⟨A7,c7,rfl⟩ : ∃ A c,vo = .slice A s.opn.length c:=Kd.iy (M0.mem.mem.owns 4 _ rfl)
 have BN:=Lib.hid (show ((s.opn.length + 1) * 8 ≤ 140737488355328) by have:=M0.few.opn; omega)
 have Ae:=Lib.hid M0.few
 have qP:=Lib.hid M0.says
 have HLEN:=Lib.hid M0.len
 have M:=ah.mk M0
 clear M0 S hk hb
 go_enter Tryz.func61,Tryz.ntmps61
 go_wp2_with fail
 refine (JZ.out _).mono ?_
 rintro e w1 ⟨rfl,hd⟩
 have M1:=ah.mk (M.out.call (gK hd))
 clear M hd
 cases hnb : Q.nameB b.data.toList with
 | false =>
  have HT:=Lib.hid (UR (s:=s) hnb)
  clear hnb
  go_wp2
  go_returns
  rw [HT.out]
  exact ⟨rfl,_,M1.out.more⟩
 | true =>
  have HNB:=Lib.hid hnb
  clear hnb
  have x9:=bY M1.out.mem 9 rfl
  cases hid : s.idle with
  | true =>
   have HT:=Lib.hid (UQ HNB.out hid)
   rw [hid] at x9
   clear hid
   go_wp2
   go_returns
   rw [HT.out]
   exact ⟨rfl,_,M1.out.more⟩
  | false =>
   have Yf:=Lib.hid hid
   rw [hid] at x9
   clear hid
   go_wp2_with fail
   have M3:=ah.mk (show bf vk w0 w1 ((gr,dN vc (.slice A1 s.funcs.length c1) vt (.slice A3 s.ins.length c3) gf gt gl (.slice A7 s.opn.length c7) s.cases false vu s.wrong s.line s.now,55) :: l) (Ea ⟨vc,.slice A1 s.funcs.length c1,vt,.slice A3 s.ins.length c3,.slice A7 s.opn.length c7,vu,gf,gt,gl,of,ot,ol,vs⟩) (dO ⟨vc,.slice A1 s.funcs.length c1,vt,.slice A3 s.ins.length c3,.slice A7 s.opn.length c7,vu,gf,gt,gl,of,ot,ol,vs⟩ s) from by
    have h:=M1.out.mem
    unfold Ee at h
    rw [← Yf.out]
    exact h)
   clear M1 x9
   refine V6 [13] [] M3 (fun w' MD => ?_)
   clear M3
   refine dP 0 15 (.pointer (some ⟨gr,0,none⟩)) ?_
   simp only [Act.put,bF,bH,bG]
   refine dP 1 16 (.pointer (some ⟨gr,0,none⟩)) ?_
   simp only [Act.put,bF,bH,bG]
   refine dP 2 17 (.pointer (some ⟨gr,0,none⟩)) ?_
   simp only [Act.put,bF,bH,bG]
   refine dP 3 18 (.pointer (some ⟨gr,7,none⟩)) ?_
   simp only [Act.put,bF,bH,bG]
   refine dC (ah.mk MD.out.mem) 4 19 0 7 (.slice A7 s.opn.length c7) (hl:=List.take_length) ?_
   simp only [Act.put,bF,bH,bG]
   refine dP 5 20 (.pointer (some ⟨gr,0,none⟩)) ?_
   simp only [Act.put,bF,bH,bG]
   refine dP 6 21 (.pointer (some ⟨gr,0,none⟩)) ?_
   simp only [Act.put,bF,bH,bG]
   refine dP 7 22 (.pointer (some ⟨gr,13,none⟩)) ?_
   simp only [Act.put,bF,bH,bG]
   refine dC (ah.mk MD.out.mem) 8 23 0 13 (.int .i64 s.now) (hl:=List.take_length) ?_
   simp only [Act.put,bF,bH,bG]
   refine dR [9] ?_
   refine fBs MD 9 24 [.int .i64 s.now] 3 ?_ aK.nil
   simp only [Act.put,bF,bH,bG]
   have MF:=ah.mk (bf.front MD.out 4 rfl)
   clear MD
   refine dR [10] ?_
   refine fAp MF 10 25 s.now [.int .i64 s.now] (.int .i64 0) 8 BN.out ?_ rfl rfl (by decide) aK.nil
   clear MF
   intro v5 w6 MG
   simp only [Act.put,bF,bH,bG]
   refine dP 11 26 (.pointer (some ⟨gr,0,none⟩)) ?_
   simp only [Act.put,bF,bH,bG]
   refine dP 12 27 (.pointer (some ⟨gr,7,none⟩)) ?_
   simp only [Act.put,bF,bH,bG]
   refine dR [13] ?_
   refine fC MG 13 52 27 0 7 v5 (dN vc (.slice A1 s.funcs.length c1) vt (.slice A3 s.ins.length c3) gf gt gl v5 s.cases false vu s.wrong s.line s.now) ?_ rfl rfl (bf.one MG.out 0 rfl) rfl aK.nil
   clear MG
   intro w7 MH
   refine aaP ?_
   have M4:=ah.mk (show Ee w0 w7 gr l ⟨vc,.slice A1 s.funcs.length c1,vt,.slice A3 s.ins.length c3,v5,vu,gf,gt,gl,of,ot,ol,vs⟩ s.BH from by
    have hb:=bf.back 4 (by show 4 < (dO _ _).length; simp [dO]) MH.out
    have e : s.BH.idle = false:=Yf.out
    unfold Ee gZ
    rw [e]
    exact hb)
   clear MH
   obtain ⟨kl,hkl⟩:=Xr (n:=(s.funcs.length : Int)) (b:=b) (wf64 (Nat.le_trans Ae.out.funcs (by have:=HK.out; omega))) (by have:=Qj.out; unfold maxLen; omega)
   have HKL:=Lib.hid hkl
   clear hkl
   have x1 : w7.cell? ⟨gr,1,none⟩ = some (.slice A1 s.funcs.length c1):=bY M4.out 1 rfl
   go_wp2_with (first
    | ((with_reducible refine bI (N:=5) rfl ?_); refine fB (ah.mk M4.out) 5 #[.int .i64 0,.string ByteArray.empty] 113 ?_ ?a1 ?a2 ?a3 ?a4; (case a1 => rfl); (case a2 => rfl); (case a3 => decide); (case a4 => (first | (go_simp; done) | (go_simp; rfl))); clear M4; intro g5 w8 M5_; have M5:=ah.mk (show bf vk w0 w8 (_ :: (l ++ [_])) _ _ from M5_.out); clear M5_)
    | ((with_reducible refine aU (t:=113) (p:=5) rfl ?_); refine fW M5 113 5 (l.length + 1) #[.int .i64 (s.funcs.length : Int),.string b] ?_ xO rfl (by kernel_rfl); clear M5; intro w9 M6))
   have M7:=ah.mk (show Ee w0 w9 gr (l ++ [(g5,#[.int .i64 (s.funcs.length : Int),.string b],113)]) ⟨vc,.slice A1 s.funcs.length c1,vt,.slice A3 s.ins.length c3,v5,vu,gf,gt,gl,of,ot,ol,vs⟩ s.BH from by
    have h:=M6.out
    rw [Jz] at h
    exact h)
   clear M6 x1
   have x6 : w9.cell? ⟨gr,6,none⟩ = some (.map (some gl)):=bY M7.out 6 rfl
   have y0 : w9.cell? ⟨g5,0,none⟩ = some (.int .i64 (s.funcs.length : Int)):=(M7.out.mem.cell (l.length + 1) xO 0).trans rfl
   have y1 : w9.cell? ⟨g5,1,none⟩ = some (.string b):=(M7.out.mem.cell (l.length + 1) xO 1).trans rfl
   have hlk : ∀ j,(Instr.lookup 50 (.map (some gl)) (.agg #[.int .i64 (s.funcs.length : Int),.string b]) true).run Tryz.prog (w9.drewN j) = .ok (.tuple #[.int .i64 ((s.lm (s.funcs.length,b)).getD 0),.bool (s.lm (s.funcs.length,b)).isSome]) (w9.drewN j):=fun j =>
    qP.out.l.look QV (by kernel_rfl) (by kernel_rfl) ((M7.out.drewN j).fix 2 _ rfl).1 (zero3 _) ((s.funcs.length : Int),b) HKL.out
   cases hso : (s.lm (s.funcs.length,b)).isSome with
   | true =>
    have HT:=Lib.hid (QY HNB.out Yf.out hso)
    rw [hso] at hlk
    go_wp2_with fail
    go_quiet (fail)
    have M8:=ah.mk (M7.out.call (aj (Below.refl _ _) nq))
    clear M7 hlk x6 y0 y1 hso
    go_wp2
    go_returns
    rw [HT.out]
    exact ⟨rfl,_,S9 M8.out,Ae.out.mark,⟨(qP.out.mono (Nat.le_succ k)).f,(qP.out.mono (Nat.le_succ k)).t,(qP.out.mono (Nat.le_succ k)).l⟩,HLEN.out⟩
   | false =>
    have HT:=Lib.hid (Xx HNB.out Yf.out hso)
    rw [hso] at hlk
    go_wp2_with fail
    go_quiet (fail)
    have M8:=ah.mk (M7.out.call (aj (Below.refl _ _) nq))
    clear M7 hlk x6 y0 y1 hso
    revert M8
    generalize w9.drewN nq = w10
    intro M8
    have x6 : w10.cell? ⟨gr,6,none⟩ = some (.map (some gl)):=bY M8.out 6 rfl
    have x3 : w10.cell? ⟨gr,3,none⟩ = some (.slice A3 s.ins.length c3):=bY M8.out 3 rfl
    have y0 : w10.cell? ⟨g5,0,none⟩ = some (.int .i64 (s.funcs.length : Int)):=(M8.out.mem.cell (l.length + 1) xO 0).trans rfl
    have y1 : w10.cell? ⟨g5,1,none⟩ = some (.string b):=(M8.out.mem.cell (l.length + 1) xO 1).trans rfl
    go_wp2_with fail
    go_still_tail 10,(by kernel_rfl)
    change wpList _ _ _ _ _ w10.drew
    have M9:=ah.mk (M8.out.call (qC (Below.refl _ _)))
    clear M8 x6 x3 y0 y1
    refine fM M9 2 rfl qP.out.l QV acZ (by kernel_rfl) (by kernel_rfl) (by have:=HK.out; unfold maxLen; omega) ((s.funcs.length : Int),b) HKL.out (s.ins.length : Int) (wf64 (Nat.le_trans Ae.out.ins (by have:=HK.out; omega))) ?_
    intro Qg o' MA hm
    have HM:=Lib.hid hm
    clear hm M9
    go_wp2
    go_returns
    rw [HT.out]
    exact ⟨rfl,⟨vc,.slice A1 s.funcs.length c1,vt,.slice A3 s.ins.length c3,v5,vu,gf,gt,gl,of,ot,o',vs⟩,S9 MA.out,Ae.out.mark.like,⟨(qP.out.mono (Nat.le_succ k)).f,(qP.out.mono (Nat.le_succ k)).t,HM.out⟩,HLEN.out⟩
end
end Go.Proofs.YtdbpglhdicmhhaaGreatDoor.qp
end

section
namespace Go.Proofs.YtdbpglhdicmhhaaGreatDoor.Q
open Go.Lib
theorem xC : ∀ (ws : List (List UInt8)) (acc : List Int) (e : Int),(fD acc e ws).2 ≠ 70 → (fD acc e ws).1.length = acc.length + ws.length
 | [],acc,e,_ => rfl
 | w :: r,acc,e,h => by
  rw [fD] at h ⊢
  by_cases vS : (xW w).2 = 70
  ·rw [if_pos vS] at h; exact absurd rfl h
  ·rw [if_neg vS] at h ⊢
   rw [xC r _ _ h,List.length_append,List.length_cons]
   simp; omega
end Go.Proofs.YtdbpglhdicmhhaaGreatDoor.Q
end

section
namespace Go.Proofs.YtdbpglhdicmhhaaGreatDoor.qp
open Go.RowKit Go.Shelf Go.Proofs.YtdbpglhdicmhhaaGreatDoorW.aI Go.Proofs.YtdbpglhdicmhhaaGreatDoorW.aX Go.Proofs.YtdbpglhdicmhhaaGreatDoorW.aZ iM
open Go.Proofs.YtdbpglhdicmhhaaGreatDoor.GA
def uo : List UInt8:=[115,101,110,100]
def wR : List UInt8:=[114,101,99,118]
def St.addCase (s : St) (c : Bool × List Int) : St:={ s with tabs:=s.tabs.set (s.tabs.length - 1) (((s.tabs.getD (s.tabs.length - 1) (false,[])).1,(s.tabs.getD (s.tabs.length - 1) (false,[])).2 ++ [c])) }
def BO (send : Bool) (r : List Int) : Bool × List Int:=(send,[r.getD 0 0,r.getD 1 0,if send then 0 else r.getD 2 0])
def St.pick (s : St) (send : Bool) (rest : List ByteArray) : St × Int :=
 if rest.length ≠ (if send then 2 else 3) then (s,70)
 else if (Q.fD [] 0 (bl rest)).2 ≠ 0 then (s,(Q.fD [] 0 (bl rest)).2)
 else (s.addCase (BO send (Q.fD [] 0 (bl rest)).1),0)
theorem KC {s : St} {send : Bool} {rest : List ByteArray} (h : rest.length ≠ (if send then 2 else 3)) : s.pick send rest = (s,70):=if_pos h
theorem Kz {s : St} {send : Bool} {rest : List ByteArray} (h : rest.length = (if send then 2 else 3)) (h2 : (Q.fD [] 0 (bl rest)).2 ≠ 0) : s.pick send rest = (s,(Q.fD [] 0 (bl rest)).2):=by
 unfold St.pick; rw [if_neg (fun e => e h),if_pos h2]
theorem TU {s : St} {send : Bool} {rest : List ByteArray} (h : rest.length = (if send then 2 else 3)) (h2 : (Q.fD [] 0 (bl rest)).2 = 0) : s.pick send rest = (s.addCase (BO send (Q.fD [] 0 (bl rest)).1),0):=by
 unfold St.pick; rw [if_neg (fun e => e h),if_neg (fun e => e h2)]
theorem Line.rest {l : List (Nat × Array Value × TypeId)} {gw n c : Nat} {s0 : ByteArray} {r : List ByteArray} (L : Line l gw n c (s0 :: r)) {k : Nat} {w0 W : World} {gr : Nat} {h : Hd} {s : St} (M : dX k w0 W gr l h s) : Bf W gw 1 r:=fun i p hi => by
 have:=M.word L (j:=i + 1) (p:=p) (by simpa using hi)
 rwa [show i + 1 = 1 + i by omega] at this
theorem aa3 {k : Nat} {w0 W : World} {gr : Nat} {l : List (Nat × Array Value × TypeId)} {h : Hd} {s : St} (M : dX k w0 W gr l h s) (S : Std w0) {gw n c : Nat} {s0 : ByteArray} {r : List ByteArray} (L : Line l gw n c (s0 :: r)) (m c' : Nat) (hm : m ≤ r.length) (hc' : m ≤ c') (hgw : gw < W.heap.size) :
  Calls Tryz.prog 94 #[.slice (some ⟨gw,1,none⟩) m c'] W fun e w' => ∃ v,e = .returned (.tuple #[v,.int .i64 (Q.fD [] 0 (bl (r.take m))).2]) ∧
   bf vk w0 w' ((gr,gZ h s,55) :: l) (Ea h) (⟨Kd.int .i64,3,v,(Q.fD [] 0 (bl (r.take m))).1⟩ :: dO h s):=by
 have hl : (r.take m).length = m:=by rw [List.length_take]; omega
 have hw : Bf W gw 1 (r.take m):=fun i p hi => (Line.rest L M) i p (by
  rw [List.getElem?_take] at hi
  split at hi
  ·exact hi
  ·cases hi)
 have hfew : r.length + 1 ≤ 262144:=by have h1:=L.len; have h2:=L.few; rw [List.length_cons] at h1; omega
 have WV:=BI gw 1 c' (r.take m) W (S.below M.below) hgw hw (fun p hp => L.small p (List.mem_cons_of_mem _ (List.mem_of_mem_take hp))) (by omega) (by omega)
 rw [hl] at WV
 refine WV.mono ?_
 rintro e w' ⟨v,rfl,hR⟩
 refine ⟨v,rfl,?_⟩
 exact M.mem.row hR.mem.below hR.mem.own (by decide)
end Go.Proofs.YtdbpglhdicmhhaaGreatDoor.qp
end
