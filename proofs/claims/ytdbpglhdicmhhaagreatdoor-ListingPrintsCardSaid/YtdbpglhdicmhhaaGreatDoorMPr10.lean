import Derived.Test.YtdbpglhdicmhhaaGreatDoorMPr9
import Derived.Test.YtdbpglhdicmhhaaGreatDoorMPr3
set_option maxHeartbeats 8000000
set_option maxRecDepth 100000
set_option linter.unusedVariables false
set_option linter.unusedSimpArgs false
section
namespace Go.Proofs.YtdbpglhdicmhhaaGreatDoor.qp
open Go.RowKit Go.Shelf Go.Proofs.YtdbpglhdicmhhaaGreatDoorW.aI Go.Proofs.YtdbpglhdicmhhaaGreatDoorW.aX Go.Proofs.YtdbpglhdicmhhaaGreatDoorW.aZ iM
open Go.Proofs.YtdbpglhdicmhhaaGreatDoor.GA
theorem aa7 {es : List TypeId} {w0 W : World} {x : Nat × Array Value × TypeId} {l : List (Nat × Array Value × TypeId)} {fx : List (Nat × Obj)} {rows : List Row} (M : bf es w0 W (x :: l) fx rows) {gw n c : Nat} {ws : List ByteArray} (L : Line l gw n c ws) {j : Nat} {p : ByteArray} (hj : ws[j]? = some p) : W.cell? ⟨gw,j,none⟩ = some (.string p):=by
 obtain ⟨i,cur,hi,hc⟩:=L.box
 exact (M.mem.cell (i + 1) (by simpa using hi) j).trans (hc j p hj)
def ab3 : List UInt8:=[100,101,102,97,117,108,116]
def St.qO (s : St) (n : Nat) : St:={ s.closed with idle:=true,tabs:=s.tabs ++ [(n == 3,[])] }
def vV (ws : List ByteArray) : Option ByteArray:=match ws with
 | [_,n] => if Q.nameB n.data.toList then some n else none
 | [_,n,d] => if Q.nameB n.data.toList ∧ d.data.toList = ab3 then some n else none
 | _ => none
def St.table (s : St) (ws : List ByteArray) : St:=match vV ws with
 | none => (s.qO ws.length).bad 70 s.now
 | some n => if (s.tm n).isSome then (s.qO ws.length).bad 72 s.now else { s.qO ws.length with tm:=fun y => if y = n then some (s.tabs.length : Int) else s.tm y }
theorem xZ {s : St} {ws : List ByteArray} (h : vV ws = none) : s.table ws = (s.qO ws.length).bad 70 s.now:=by
 unfold St.table; rw [h]
theorem GR {s : St} {ws : List ByteArray} {n : ByteArray} (h : vV ws = some n) (h2 : (s.tm n).isSome = true) : s.table ws = (s.qO ws.length).bad 72 s.now:=by
 unfold St.table; rw [h]; exact if_pos h2
theorem KJ {s : St} {ws : List ByteArray} {n : ByteArray} (h : vV ws = some n) (h2 : (s.tm n).isSome = false) : s.table ws = { s.qO ws.length with tm:=fun y => if y = n then some (s.tabs.length : Int) else s.tm y }:=by
 unfold St.table; rw [h]; exact if_neg (by rw [h2]; simp)
theorem GN {ws : List ByteArray} (h2 : ws.length ≠ 2) (h3 : ws.length ≠ 3) : vV ws = none:=by
 unfold vV
 split
 ·exact absurd rfl h2
 ·exact absurd rfl h3
 ·rfl
theorem Qc (a n : ByteArray) : vV [a,n] = if Q.nameB n.data.toList then some n else none:=rfl
theorem JC (a n d : ByteArray) : vV [a,n,d] = if Q.nameB n.data.toList ∧ d.data.toList = ab3 then some n else none:=rfl
theorem Qe {ws : List ByteArray} (h : ws.length = 3) : ∃ a b c,ws = [a,b,c]:=by
 match ws,h with
 | [a,b,c],_ => exact ⟨a,b,c,rfl⟩
theorem vO.table {k : Nat} {s : St} (h : vO k s) (n : Nat) : vO (k + 1) (s.qO n):=by
 have:=h.tabs
 refine ⟨Nat.le_succ_of_le h.code,Nat.le_succ_of_le h.funcs,by show (s.tabs ++ _).length ≤ _; simp; omega,Nat.le_succ_of_le h.ins,Nat.zero_le _,Nat.le_succ_of_le h.uses,fun t ht => ?_⟩
 rcases List.mem_append.1 ht with ht | ht
 ·exact Nat.le_succ_of_le (h.cs t ht)
 ·rw [List.mem_singleton] at ht; subst ht; exact Nat.zero_le _
theorem wH {vs : List Value} {tabs : List (Bool × List (Bool × List Int))} (h : vs.length = tabs.length) (v : Value) (t : Bool × List (Bool × List Int)) : fF (vs ++ [v]) (tabs ++ [t]) = fF vs tabs ++ [[v,.bool t.1]]:=by
 rw [fF,List.zipWith_append h]; rfl
theorem wB {vs : List Value} {tabs : List (Bool × List (Bool × List Int))} (h : vs.length = tabs.length) (v : Value) (t : Bool × List (Bool × List Int)) : iE (vs ++ [v]) (tabs ++ [t]) = iE vs tabs ++ [⟨Kd.raw 4,46,v,t.2.map rD⟩]:=by
 rw [iE,List.zipWith_append h]; rfl
theorem qG {vs : List Value} {tabs : List (Bool × List (Bool × List Int))} (h : vs.length = tabs.length) : (fF vs tabs).length = tabs.length:=by
 rw [fF,List.length_zipWith,h,Nat.min_self]
theorem ES {w : World} {b : Nat} {ok : Nat → Prop} (v : Value) (d : Bool) (hv : v.oneCell' = true) : (Kd.raw 2).M w b ok [v,.bool d] [v,.bool d] :=
 ⟨rfl,rfl,fun u hu => by
  rcases List.mem_cons.1 hu with rfl | hu
  ·exact hv
  ·rw [List.mem_singleton] at hu; subst hu; rfl⟩
section
variable {k : Nat} {w0 W : World} {gr : Nat} {l : List (Nat × Array Value × TypeId)} {h : Hd} {s : St} {gw n c : Nat} {ws : List ByteArray}
theorem U9 (M0 : dX k w0 W gr l h s) (S : Std w0) (hk : k < 262144) (L : Line l gw n c ws) (h2 : n = 2) :
  Calls Tryz.prog 57 #[.pointer (some ⟨gr,0,none⟩),.slice (some ⟨gw,0,none⟩) n c] W fun z w' => z = .returned (.tuple #[]) ∧ ∃ h',dX (k + 1) w0 w' gr l h' (s.table ws):=by
 have SS:=Lib.hid S
 have HK:=Lib.hid hk
 have HL:=Lib.hid L
 have Oa:=Lib.hid (CW M0 S (by omega))
 obtain ⟨vc,vf,vt,vi,vo,vu,gf,gt,gl,of,ot,ol,vs⟩:=h
 have HLEN:=Lib.hid M0.len
 obtain ⟨A2,c2,rfl⟩ : ∃ A c,vt = .slice A s.tabs.length c:=by
  have h1:=Kd.iy (M0.mem.mem.owns 2 _ rfl)
  obtain ⟨A,c,he⟩:=h1
  exact ⟨A,c,by rw [← qG HLEN.out]; exact he⟩
 have BN:=Lib.hid (show (((fF vs s.tabs).length + 1) * 32 ≤ 140737488355328) by rw [qG HLEN.out]; have:=M0.few.tabs; omega)
 have Ae:=Lib.hid M0.few
 have qP:=Lib.hid M0.says
 clear M0 S hk L
 obtain ⟨a,b,rfl⟩:=KO (HL.out.len.trans h2)
 subst h2
 have hcap : 2 ≤ c:=HL.out.cap
 have Qj:=Lib.hid (HL.out.small b (by simp))
 have JZ:=Lib.hid (fun W => jf b Qj.out W)
 go_enter Tryz.func57,Tryz.ntmps57
 go_wp2_with fail
 refine Oa.out.mono ?_
 rintro e w1 ⟨rfl,M⟩
 have M1:=ah.mk M
 clear M
 go_wp2_with (first
  | ((with_reducible refine aU (t:=4) (p:=11) rfl ?_); refine fS (ah.mk M1.out.mem) 4 (.tmp 11) 0 9 (.bool true) (dN vc vf (.slice A2 s.tabs.length c2) vi gf gt gl (.slice none 0 0) s.cases true vu s.closed.wrong s.closed.line s.now) ?_ rfl rfl rfl rfl; clear M1; intro W2 M2; have x2:=bY M2.out 2 rfl; have MF:=ah.mk (bf.front M2.out 2 rfl); clear M2)
  | ((with_reducible refine jB (b:=.append) (xs:=#[.tmp 23,.tmp 28]) rfl ?_); at_builtin; refine fA MF 29 [.slice none 0 0,.bool false] [.slice none 0 0,.bool false] (.agg #[.slice none 0 0,.bool false]) 32 BN.out ?_ (ES _ _ rfl) rfl (by decide); clear MF x2; intro v5 W5 MG)
  | ((with_reducible refine aU (t:=24) (p:=32) rfl ?_); refine fS MG 24 (.tmp 32) 0 2 v5 (dN vc vf v5 vi gf gt gl (.slice none 0 0) s.cases true vu s.closed.wrong s.closed.line s.now) ?_ rfl rfl (bf.one MG.out 0 rfl) rfl; clear MG; intro w7 MH; have xb:=aa7 (show bf _ _ _ (_ :: l) _ _ from MH.out) HL.out (j:=1) rfl))
 have M4:=ah.mk (show Ee w0 w7 gr l ⟨vc,vf,v5,vi,.slice none 0 0,vu,gf,gt,gl,of,ot,ol,vs ++ [.slice none 0 0]⟩ (s.qO [a,b].length) from by
  have hb:=bf.uK (Kd.raw 4) 46 (bf.back 2 (by show 2 < (dO _ _).length; simp [dO]) MH.out) (by decide)
  have key : ∀ F G,F = fF vs s.tabs ++ [[.slice none 0 0,.bool false]] → G = iE vs s.tabs ++ [⟨Kd.raw 4,46,.slice none 0 0,[]⟩] → bf vk w0 w7 ((gr,gZ ⟨vc,vf,v5,vi,.slice none 0 0,vu,gf,gt,gl,of,ot,ol,vs ++ [.slice none 0 0]⟩ (s.qO [a,b].length),55) :: l) (Ea ⟨vc,vf,v5,vi,.slice none 0 0,vu,gf,gt,gl,of,ot,ol,vs ++ [.slice none 0 0]⟩)
    (⟨Kd.int .u32,39,vc,s.code⟩ :: ⟨Kd.raw 2,41,vf,s.funcs.map ints⟩ :: ⟨Kd.raw 2,44,v5,F⟩ :: ⟨Kd.raw 5,70,vi,s.ins.map ints⟩ :: ⟨Kd.int .i64,3,.slice none 0 0,[]⟩ :: ⟨Kd.raw 5,111,vu,s.uses.map zH⟩ :: G):=fun F G hF hG => by
   rw [hF,hG]; exact hb
  exact key _ _ ((wH HLEN.out _ _).trans (by rw [show false = ([a,b].length == 3) from rfl])) (wB HLEN.out _ _))
 clear MH
 have M5:=ah.mk (dX.mk (k:=k + 1) M4.out (Ae.out.table _) ⟨(qP.out.mono (Nat.le_succ k)).f,(qP.out.mono (Nat.le_succ k)).t,(qP.out.mono (Nat.le_succ k)).l⟩ (by show (vs ++ _).length = (s.tabs ++ _).length; rw [List.length_append,List.length_append,HLEN.out]; rfl))
 clear M4
 refine (JZ.out _).mono ?_
 rintro e w8 ⟨rfl,hd⟩
 have M6:=ah.mk (M5.out.call (gK hd))
 clear M5 hd xb
 cases hnb : Q.nameB b.data.toList with
 | false =>
  have HT:=Lib.hid (xZ (s:=s) (ws:=[a,b]) (by rw [Qc,hnb]; rfl))
  have BJ:=Lib.hid (tq M6.out SS.out 70 s.now)
  have x11:=bY M6.out.mem 13 rfl
  clear hnb
  go_wp2_with fail
  refine BJ.out.mono ?_
  rintro e Yh ⟨rfl,MA⟩
  have MB:=ah.mk MA
  clear MA
  go_wp2
  go_returns
  rw [HT.out]
  exact ⟨rfl,_,MB.out⟩
 | true =>
  have VD:=Lib.hid (show vV [a,b] = some b by rw [Qc,hnb]; rfl)
  clear hnb
  have x5:=bY M6.out.mem 5 rfl
  have xb:=M6.out.word HL.out (j:=1) rfl
  have hlk : ∀ j,(Instr.lookup 49 (.map (some gt)) (.string b) true).run Tryz.prog (w8.drewN j) = .ok (.tuple #[.int .i64 ((s.tm b).getD 0),.bool (s.tm b).isSome]) (w8.drewN j):=fun j =>
   M6.out.says.t.look NU (by kernel_rfl) (by kernel_rfl) ((M6.out.mem.drewN j).fix 1 _ rfl).1 (zero3 _) b (Bz (by have:=Qj.out; unfold maxLen; omega))
  cases hso : (s.tm b).isSome with
  | true =>
   have HT:=Lib.hid (GR VD.out hso)
   rw [hso] at hlk
   go_wp2_with fail
   go_quiet (fail)
   have M7:=ah.mk (M6.out.call (aj (Below.refl _ _) nq))
   clear M6 hlk x5 xb hso
   revert M7
   generalize w8.drewN nq = w9
   intro M7
   have BJ:=Lib.hid (tq M7.out SS.out 72 s.now)
   have x11:=bY M7.out.mem 13 rfl
   go_wp2_with fail
   refine BJ.out.mono ?_
   rintro e w10 ⟨rfl,M8⟩
   have M9:=ah.mk M8
   clear M8
   go_wp2
   go_returns
   rw [HT.out]
   exact ⟨rfl,_,M9.out⟩
  | false =>
   have HT:=Lib.hid (KJ VD.out hso)
   rw [hso] at hlk
   go_wp2_with fail
   go_quiet (fail)
   have M7:=ah.mk (M6.out.call (aj (Below.refl _ _) nq))
   clear M6 hlk x5 xb hso
   revert M7
   generalize w8.drewN nq = w9
   intro M7
   have x5:=bY M7.out.mem 5 rfl
   have xb:=M7.out.word HL.out (j:=1) rfl
   go_wp2_with fail
   go_still_tail 8,(by kernel_rfl)
   change wpList _ _ _ _ _ w9.drew
   have M8:=ah.mk (M7.out.mem.call (qC (Below.refl _ _)))
   have RU:=Lib.hid M7.out
   clear M7 x5 xb
   refine fM M8 1 rfl qP.out.t NU Ru (by kernel_rfl) (by kernel_rfl) (by have:=HK.out; unfold maxLen; omega) b (Bz (by have:=Qj.out; unfold maxLen; omega)) (s.tabs.length : Int) (wf64 (Nat.le_trans Ae.out.tabs (by have:=HK.out; omega))) ?_
   intro w10 o' M9 hm
   have HM:=Lib.hid hm
   clear hm M8
   go_wp2
   go_returns
   rw [HT.out]
   exact ⟨rfl,⟨vc,vf,v5,vi,.slice none 0 0,vu,gf,gt,gl,of,o',ol,vs ++ [Value.slice none 0 0]⟩,M9.out,RU.out.few.like,⟨RU.out.says.f,HM.out,RU.out.says.l⟩,RU.out.len⟩
theorem Qd (M0 : dX k w0 W gr l h s) (S : Std w0) (hk : k < 262144) (L : Line l gw n c ws) (h3 : n = 3) :
  Calls Tryz.prog 57 #[.pointer (some ⟨gr,0,none⟩),.slice (some ⟨gw,0,none⟩) n c] W fun z w' => z = .returned (.tuple #[]) ∧ ∃ h',dX (k + 1) w0 w' gr l h' (s.table ws):=by
 have SS:=Lib.hid S
 have HK:=Lib.hid hk
 have HL:=Lib.hid L
 have Oa:=Lib.hid (CW M0 S (by omega))
 obtain ⟨vc,vf,vt,vi,vo,vu,gf,gt,gl,of,ot,ol,vs⟩:=h
 have HLEN:=Lib.hid M0.len
 obtain ⟨A2,c2,rfl⟩ : ∃ A c,vt = .slice A s.tabs.length c:=by
  have h1:=Kd.iy (M0.mem.mem.owns 2 _ rfl)
  obtain ⟨A,c,he⟩:=h1
  exact ⟨A,c,by rw [← qG HLEN.out]; exact he⟩
 have BN:=Lib.hid (show (((fF vs s.tabs).length + 1) * 32 ≤ 140737488355328) by rw [qG HLEN.out]; have:=M0.few.tabs; omega)
 have Ae:=Lib.hid M0.few
 have qP:=Lib.hid M0.says
 clear M0 S hk L
 obtain ⟨a,b,d,rfl⟩:=Qe (HL.out.len.trans h3)
 subst h3
 have hcap : 3 ≤ c:=HL.out.cap
 have Qj:=Lib.hid (HL.out.small b (by simp))
 have JZ:=Lib.hid (fun W => jf b Qj.out W)
 go_enter Tryz.func57,Tryz.ntmps57
 go_wp2_with fail
 refine Oa.out.mono ?_
 rintro e w1 ⟨rfl,M⟩
 have M1:=ah.mk M
 clear M
 go_wp2_with (first
  | ((with_reducible refine aU (t:=4) (p:=11) rfl ?_); refine fS (ah.mk M1.out.mem) 4 (.tmp 11) 0 9 (.bool true) (dN vc vf (.slice A2 s.tabs.length c2) vi gf gt gl (.slice none 0 0) s.cases true vu s.closed.wrong s.closed.line s.now) ?_ rfl rfl rfl rfl; clear M1; intro W2 M2; have x2:=bY M2.out 2 rfl; have MF:=ah.mk (bf.front M2.out 2 rfl); clear M2)
  | ((with_reducible refine jB (b:=.append) (xs:=#[.tmp 23,.tmp 28]) rfl ?_); at_builtin; refine fA MF 29 [.slice none 0 0,.bool true] [.slice none 0 0,.bool true] (.agg #[.slice none 0 0,.bool false]) 32 BN.out ?_ (ES _ _ rfl) rfl (by decide); clear MF x2; intro v5 W5 MG)
  | ((with_reducible refine aU (t:=24) (p:=32) rfl ?_); refine fS MG 24 (.tmp 32) 0 2 v5 (dN vc vf v5 vi gf gt gl (.slice none 0 0) s.cases true vu s.closed.wrong s.closed.line s.now) ?_ rfl rfl (bf.one MG.out 0 rfl) rfl; clear MG; intro w7 MH; have xb:=aa7 (show bf _ _ _ (_ :: l) _ _ from MH.out) HL.out (j:=1) rfl))
 have M4:=ah.mk (show Ee w0 w7 gr l ⟨vc,vf,v5,vi,.slice none 0 0,vu,gf,gt,gl,of,ot,ol,vs ++ [.slice none 0 0]⟩ (s.qO [a,b,d].length) from by
  have hb:=bf.uK (Kd.raw 4) 46 (bf.back 2 (by show 2 < (dO _ _).length; simp [dO]) MH.out) (by decide)
  have key : ∀ F G,F = fF vs s.tabs ++ [[.slice none 0 0,.bool true]] → G = iE vs s.tabs ++ [⟨Kd.raw 4,46,.slice none 0 0,[]⟩] → bf vk w0 w7 ((gr,gZ ⟨vc,vf,v5,vi,.slice none 0 0,vu,gf,gt,gl,of,ot,ol,vs ++ [.slice none 0 0]⟩ (s.qO [a,b,d].length),55) :: l) (Ea ⟨vc,vf,v5,vi,.slice none 0 0,vu,gf,gt,gl,of,ot,ol,vs ++ [.slice none 0 0]⟩)
    (⟨Kd.int .u32,39,vc,s.code⟩ :: ⟨Kd.raw 2,41,vf,s.funcs.map ints⟩ :: ⟨Kd.raw 2,44,v5,F⟩ :: ⟨Kd.raw 5,70,vi,s.ins.map ints⟩ :: ⟨Kd.int .i64,3,.slice none 0 0,[]⟩ :: ⟨Kd.raw 5,111,vu,s.uses.map zH⟩ :: G):=fun F G hF hG => by
   rw [hF,hG]; exact hb
  exact key _ _ ((wH HLEN.out _ _).trans (by rw [show true = ([a,b,d].length == 3) from rfl])) (wB HLEN.out _ _))
 clear MH
 have M5:=ah.mk (dX.mk (k:=k + 1) M4.out (Ae.out.table _) ⟨(qP.out.mono (Nat.le_succ k)).f,(qP.out.mono (Nat.le_succ k)).t,(qP.out.mono (Nat.le_succ k)).l⟩ (by show (vs ++ _).length = (s.tabs ++ _).length; rw [List.length_append,List.length_append,HLEN.out]; rfl))
 clear M4
 refine (JZ.out _).mono ?_
 rintro e w8 ⟨rfl,hd⟩
 have M6:=ah.mk (M5.out.call (gK hd))
 clear M5 hd xb
 cases hnb : Q.nameB b.data.toList with
 | false =>
  have HT:=Lib.hid (xZ (s:=s) (ws:=[a,b,d]) (by rw [JC,hnb]; simp))
  have BJ:=Lib.hid (tq M6.out SS.out 70 s.now)
  have x11:=bY M6.out.mem 13 rfl
  clear hnb
  go_wp2_with fail
  refine BJ.out.mono ?_
  rintro e Yh ⟨rfl,MA⟩
  have MB:=ah.mk MA
  clear MA
  go_wp2
  go_returns
  rw [HT.out]
  exact ⟨rfl,_,MB.out⟩
 | true =>
  have xd:=M6.out.word HL.out (j:=2) rfl
  by_cases hd : d.data.toList = ab3
  ·have e1 : (d.toList == [100,101,102,97,117,108,116]) = true:=by rw [ByteArray.toList_eq,hd]; rfl
   have e2 : d.toList = [100,101,102,97,117,108,116]:=by rw [ByteArray.toList_eq]; exact hd
   have VD:=Lib.hid (show vV [a,b,d] = some b by rw [JC,if_pos ⟨hnb,hd⟩])
   clear hnb hd
   have x5:=bY M6.out.mem 5 rfl
   have xb:=M6.out.word HL.out (j:=1) rfl
   have hlk : ∀ j,(Instr.lookup 49 (.map (some gt)) (.string b) true).run Tryz.prog (w8.drewN j) = .ok (.tuple #[.int .i64 ((s.tm b).getD 0),.bool (s.tm b).isSome]) (w8.drewN j):=fun j =>
    M6.out.says.t.look NU (by kernel_rfl) (by kernel_rfl) ((M6.out.mem.drewN j).fix 1 _ rfl).1 (zero3 _) b (Bz (by have:=Qj.out; unfold maxLen; omega))
   cases hso : (s.tm b).isSome with
   | true =>
    have HT:=Lib.hid (GR VD.out hso)
    rw [hso] at hlk
    go_wp2_with fail
    go_quiet (fail)
    have M7:=ah.mk (M6.out.call (aj (Below.refl _ _) nq))
    clear M6 hlk x5 xb hso xd
    revert M7
    generalize w8.drewN nq = w9
    intro M7
    have BJ:=Lib.hid (tq M7.out SS.out 72 s.now)
    have x11:=bY M7.out.mem 13 rfl
    go_wp2_with fail
    refine BJ.out.mono ?_
    rintro e w10 ⟨rfl,M8⟩
    have M9:=ah.mk M8
    clear M8
    go_wp2
    go_returns
    rw [HT.out]
    exact ⟨rfl,_,M9.out⟩
   | false =>
    have HT:=Lib.hid (KJ VD.out hso)
    rw [hso] at hlk
    go_wp2_with fail
    go_quiet (fail)
    have M7:=ah.mk (M6.out.call (aj (Below.refl _ _) nq))
    clear M6 hlk x5 xb hso xd
    revert M7
    generalize w8.drewN nq = w9
    intro M7
    have x5:=bY M7.out.mem 5 rfl
    have xb:=M7.out.word HL.out (j:=1) rfl
    go_wp2_with fail
    go_still_tail 8,(by kernel_rfl)
    change wpList _ _ _ _ _ w9.drew
    have M8:=ah.mk (M7.out.mem.call (qC (Below.refl _ _)))
    have RU:=Lib.hid M7.out
    clear M7 x5 xb
    refine fM M8 1 rfl qP.out.t NU Ru (by kernel_rfl) (by kernel_rfl) (by have:=HK.out; unfold maxLen; omega) b (Bz (by have:=Qj.out; unfold maxLen; omega)) (s.tabs.length : Int) (wf64 (Nat.le_trans Ae.out.tabs (by have:=HK.out; omega))) ?_
    intro w10 o' M9 hm
    have HM:=Lib.hid hm
    clear hm M8
    go_wp2
    go_returns
    rw [HT.out]
    exact ⟨rfl,⟨vc,vf,v5,vi,.slice none 0 0,vu,gf,gt,gl,of,o',ol,vs ++ [Value.slice none 0 0]⟩,M9.out,RU.out.few.like,⟨RU.out.says.f,HM.out,RU.out.says.l⟩,RU.out.len⟩
  ·have e1 : (d.toList == [100,101,102,97,117,108,116]) = false:=by rw [ByteArray.toList_eq]; exact beq_eq_false_iff_ne.mpr hd
   have e2 : (d.toList = [100,101,102,97,117,108,116]) = False:=eq_false (by rw [ByteArray.toList_eq]; exact hd)
   have HT:=Lib.hid (xZ (s:=s) (ws:=[a,b,d]) (by rw [JC,if_neg (fun h => hd h.2)]))
   have BJ:=Lib.hid (tq M6.out SS.out 70 s.now)
   have x11:=bY M6.out.mem 13 rfl
   clear hnb hd
   go_wp2_with fail
   refine BJ.out.mono ?_
   rintro e Yh ⟨rfl,MA⟩
   have MB:=ah.mk MA
   clear MA
   go_wp2
   go_returns
   rw [HT.out]
   exact ⟨rfl,_,MB.out⟩
theorem RD (M0 : dX k w0 W gr l h s) (S : Std w0) (hk : k < 262144) (L : Line l gw n c ws) (h2 : n ≠ 2) (h3 : n ≠ 3) (hlt : (n : Int) < 2) :
  Calls Tryz.prog 57 #[.pointer (some ⟨gr,0,none⟩),.slice (some ⟨gw,0,none⟩) n c] W fun z w' => z = .returned (.tuple #[]) ∧ ∃ h',dX (k + 1) w0 w' gr l h' (s.table ws):=by
 have SS:=Lib.hid S
 have HK:=Lib.hid hk
 have HL:=Lib.hid L
 have Oa:=Lib.hid (CW M0 S (by omega))
 obtain ⟨vc,vf,vt,vi,vo,vu,gf,gt,gl,of,ot,ol,vs⟩:=h
 have HLEN:=Lib.hid M0.len
 obtain ⟨A2,c2,rfl⟩ : ∃ A c,vt = .slice A s.tabs.length c:=by
  have h1:=Kd.iy (M0.mem.mem.owns 2 _ rfl)
  obtain ⟨A,c,he⟩:=h1
  exact ⟨A,c,by rw [← qG HLEN.out]; exact he⟩
 have BN:=Lib.hid (show (((fF vs s.tabs).length + 1) * 32 ≤ 140737488355328) by rw [qG HLEN.out]; have:=M0.few.tabs; omega)
 have Ae:=Lib.hid M0.few
 have qP:=Lib.hid M0.says
 clear M0 S hk L
 have n3 : ((n : Int) == 3) = false:=beq_eq_false_iff_ne.mpr (by omega)
 have HX:=Lib.hid (GN (fun e => h2 (HL.out.len.symm.trans e)) (fun e => h3 (HL.out.len.symm.trans e)))
 have d1 : decide ((n : Int) < 2) = true:=decide_eq_true hlt
 have d2 : n < 2:=by omega
 clear h2 hlt
 go_enter Tryz.func57,Tryz.ntmps57
 go_wp2_with fail
 refine Oa.out.mono ?_
 rintro e w1 ⟨rfl,M⟩
 have M1:=ah.mk M
 clear M
 go_wp2_with (first
  | ((with_reducible refine aU (t:=4) (p:=11) rfl ?_); refine fS (ah.mk M1.out.mem) 4 (.tmp 11) 0 9 (.bool true) (dN vc vf (.slice A2 s.tabs.length c2) vi gf gt gl (.slice none 0 0) s.cases true vu s.closed.wrong s.closed.line s.now) ?_ rfl rfl rfl rfl; clear M1; intro W2 M2; have x2:=bY M2.out 2 rfl; have MF:=ah.mk (bf.front M2.out 2 rfl); clear M2)
  | ((with_reducible refine jB (b:=.append) (xs:=#[.tmp 23,.tmp 28]) rfl ?_); at_builtin; refine fA MF 29 [.slice none 0 0,.bool false] [.slice none 0 0,.bool false] (.agg #[.slice none 0 0,.bool false]) 32 BN.out ?_ (ES _ _ rfl) rfl (by decide); clear MF x2; intro v5 W5 MG)
  | ((with_reducible refine aU (t:=24) (p:=32) rfl ?_); refine fS MG 24 (.tmp 32) 0 2 v5 (dN vc vf v5 vi gf gt gl (.slice none 0 0) s.cases true vu s.closed.wrong s.closed.line s.now) ?_ rfl rfl (bf.one MG.out 0 rfl) rfl; clear MG; intro w7 MH; have xG : w7.cell? ⟨gr,13,none⟩ = some (.int .i64 s.now):=bY MH.out 13 rfl))
 have M4:=ah.mk (show Ee w0 w7 gr l ⟨vc,vf,v5,vi,.slice none 0 0,vu,gf,gt,gl,of,ot,ol,vs ++ [.slice none 0 0]⟩ (s.qO ws.length) from by
  have hb:=bf.uK (Kd.raw 4) 46 (bf.back 2 (by show 2 < (dO _ _).length; simp [dO]) MH.out) (by decide)
  have key : ∀ F G,F = fF vs s.tabs ++ [[.slice none 0 0,.bool false]] → G = iE vs s.tabs ++ [⟨Kd.raw 4,46,.slice none 0 0,[]⟩] → bf vk w0 w7 ((gr,gZ ⟨vc,vf,v5,vi,.slice none 0 0,vu,gf,gt,gl,of,ot,ol,vs ++ [.slice none 0 0]⟩ (s.qO ws.length),55) :: l) (Ea ⟨vc,vf,v5,vi,.slice none 0 0,vu,gf,gt,gl,of,ot,ol,vs ++ [.slice none 0 0]⟩)
    (⟨Kd.int .u32,39,vc,s.code⟩ :: ⟨Kd.raw 2,41,vf,s.funcs.map ints⟩ :: ⟨Kd.raw 2,44,v5,F⟩ :: ⟨Kd.raw 5,70,vi,s.ins.map ints⟩ :: ⟨Kd.int .i64,3,.slice none 0 0,[]⟩ :: ⟨Kd.raw 5,111,vu,s.uses.map zH⟩ :: G):=fun F G hF hG => by
   rw [hF,hG]; exact hb
  exact key _ _ ((wH HLEN.out _ _).trans (by rw [show false = (ws.length == 3) from (beq_eq_false_iff_ne.mpr (fun e => h3 (HL.out.len.symm.trans e))).symm])) (wB HLEN.out _ _))
 clear MH
 have M5:=ah.mk (dX.mk (k:=k + 1) M4.out (Ae.out.table _) ⟨(qP.out.mono (Nat.le_succ k)).f,(qP.out.mono (Nat.le_succ k)).t,(qP.out.mono (Nat.le_succ k)).l⟩ (by show (vs ++ _).length = (s.tabs ++ _).length; rw [List.length_append,List.length_append,HLEN.out]; rfl))
 clear M4
 have HT:=Lib.hid (xZ (s:=s) (ws:=ws) HX.out)
 have BJ:=Lib.hid (tq M5.out SS.out 70 s.now)
 have x11:=bY M5.out.mem 13 rfl
 clear h3
 try go_wp2_with fail
 refine BJ.out.mono ?_
 rintro e Yh ⟨rfl,MA⟩
 have MB:=ah.mk MA
 clear MA
 go_wp2
 go_returns
 rw [HT.out]
 exact ⟨rfl,_,MB.out⟩
theorem RF (M0 : dX k w0 W gr l h s) (S : Std w0) (hk : k < 262144) (L : Line l gw n c ws) (h2 : n ≠ 2) (h3 : n ≠ 3) (hlt : ¬ (n : Int) < 2) :
  Calls Tryz.prog 57 #[.pointer (some ⟨gr,0,none⟩),.slice (some ⟨gw,0,none⟩) n c] W fun z w' => z = .returned (.tuple #[]) ∧ ∃ h',dX (k + 1) w0 w' gr l h' (s.table ws):=by
 have SS:=Lib.hid S
 have HK:=Lib.hid hk
 have HL:=Lib.hid L
 have Oa:=Lib.hid (CW M0 S (by omega))
 obtain ⟨vc,vf,vt,vi,vo,vu,gf,gt,gl,of,ot,ol,vs⟩:=h
 have HLEN:=Lib.hid M0.len
 obtain ⟨A2,c2,rfl⟩ : ∃ A c,vt = .slice A s.tabs.length c:=by
  have h1:=Kd.iy (M0.mem.mem.owns 2 _ rfl)
  obtain ⟨A,c,he⟩:=h1
  exact ⟨A,c,by rw [← qG HLEN.out]; exact he⟩
 have BN:=Lib.hid (show (((fF vs s.tabs).length + 1) * 32 ≤ 140737488355328) by rw [qG HLEN.out]; have:=M0.few.tabs; omega)
 have Ae:=Lib.hid M0.few
 have qP:=Lib.hid M0.says
 clear M0 S hk L
 have n3 : ((n : Int) == 3) = false:=beq_eq_false_iff_ne.mpr (by omega)
 have HX:=Lib.hid (GN (fun e => h2 (HL.out.len.symm.trans e)) (fun e => h3 (HL.out.len.symm.trans e)))
 have d1 : decide ((n : Int) < 2) = false:=decide_eq_false hlt
 have d2 : ¬ n < 2:=by omega
 have d3 : decide ((n : Int) > 3) = true:=decide_eq_true (by omega)
 have d4 : decide (3 < (n : Int)) = true:=decide_eq_true (by omega)
 have d5 : 3 < n:=by omega
 clear h2 hlt
 go_enter Tryz.func57,Tryz.ntmps57
 go_wp2_with fail
 refine Oa.out.mono ?_
 rintro e w1 ⟨rfl,M⟩
 have M1:=ah.mk M
 clear M
 go_wp2_with (first
  | ((with_reducible refine aU (t:=4) (p:=11) rfl ?_); refine fS (ah.mk M1.out.mem) 4 (.tmp 11) 0 9 (.bool true) (dN vc vf (.slice A2 s.tabs.length c2) vi gf gt gl (.slice none 0 0) s.cases true vu s.closed.wrong s.closed.line s.now) ?_ rfl rfl rfl rfl; clear M1; intro W2 M2; have x2:=bY M2.out 2 rfl; have MF:=ah.mk (bf.front M2.out 2 rfl); clear M2)
  | ((with_reducible refine jB (b:=.append) (xs:=#[.tmp 23,.tmp 28]) rfl ?_); at_builtin; refine fA MF 29 [.slice none 0 0,.bool false] [.slice none 0 0,.bool false] (.agg #[.slice none 0 0,.bool false]) 32 BN.out ?_ (ES _ _ rfl) rfl (by decide); clear MF x2; intro v5 W5 MG)
  | ((with_reducible refine aU (t:=24) (p:=32) rfl ?_); refine fS MG 24 (.tmp 32) 0 2 v5 (dN vc vf v5 vi gf gt gl (.slice none 0 0) s.cases true vu s.closed.wrong s.closed.line s.now) ?_ rfl rfl (bf.one MG.out 0 rfl) rfl; clear MG; intro w7 MH; have xG : w7.cell? ⟨gr,13,none⟩ = some (.int .i64 s.now):=bY MH.out 13 rfl))
 have M4:=ah.mk (show Ee w0 w7 gr l ⟨vc,vf,v5,vi,.slice none 0 0,vu,gf,gt,gl,of,ot,ol,vs ++ [.slice none 0 0]⟩ (s.qO ws.length) from by
  have hb:=bf.uK (Kd.raw 4) 46 (bf.back 2 (by show 2 < (dO _ _).length; simp [dO]) MH.out) (by decide)
  have key : ∀ F G,F = fF vs s.tabs ++ [[.slice none 0 0,.bool false]] → G = iE vs s.tabs ++ [⟨Kd.raw 4,46,.slice none 0 0,[]⟩] → bf vk w0 w7 ((gr,gZ ⟨vc,vf,v5,vi,.slice none 0 0,vu,gf,gt,gl,of,ot,ol,vs ++ [.slice none 0 0]⟩ (s.qO ws.length),55) :: l) (Ea ⟨vc,vf,v5,vi,.slice none 0 0,vu,gf,gt,gl,of,ot,ol,vs ++ [.slice none 0 0]⟩)
    (⟨Kd.int .u32,39,vc,s.code⟩ :: ⟨Kd.raw 2,41,vf,s.funcs.map ints⟩ :: ⟨Kd.raw 2,44,v5,F⟩ :: ⟨Kd.raw 5,70,vi,s.ins.map ints⟩ :: ⟨Kd.int .i64,3,.slice none 0 0,[]⟩ :: ⟨Kd.raw 5,111,vu,s.uses.map zH⟩ :: G):=fun F G hF hG => by
   rw [hF,hG]; exact hb
  exact key _ _ ((wH HLEN.out _ _).trans (by rw [show false = (ws.length == 3) from (beq_eq_false_iff_ne.mpr (fun e => h3 (HL.out.len.symm.trans e))).symm])) (wB HLEN.out _ _))
 clear MH
 have M5:=ah.mk (dX.mk (k:=k + 1) M4.out (Ae.out.table _) ⟨(qP.out.mono (Nat.le_succ k)).f,(qP.out.mono (Nat.le_succ k)).t,(qP.out.mono (Nat.le_succ k)).l⟩ (by show (vs ++ _).length = (s.tabs ++ _).length; rw [List.length_append,List.length_append,HLEN.out]; rfl))
 clear M4
 have HT:=Lib.hid (xZ (s:=s) (ws:=ws) HX.out)
 have BJ:=Lib.hid (tq M5.out SS.out 70 s.now)
 have x11:=bY M5.out.mem 13 rfl
 clear h3
 try go_wp2_with fail
 refine BJ.out.mono ?_
 rintro e Yh ⟨rfl,MA⟩
 have MB:=ah.mk MA
 clear MA
 go_wp2
 go_returns
 rw [HT.out]
 exact ⟨rfl,_,MB.out⟩
theorem uq (M0 : dX k w0 W gr l h s) (S : Std w0) (hk : k < 262144) (L : Line l gw n c ws) :
  Calls Tryz.prog 57 #[.pointer (some ⟨gr,0,none⟩),.slice (some ⟨gw,0,none⟩) n c] W fun z w' => z = .returned (.tuple #[]) ∧ ∃ h',dX (k + 1) w0 w' gr l h' (s.table ws):=by
 by_cases h2 : n = 2
 ·exact U9 M0 S hk L h2
 ·by_cases h3 : n = 3
  ·exact Qd M0 S hk L h3
  ·by_cases hlt : (n : Int) < 2
   ·exact RD M0 S hk L h2 h3 hlt
   ·exact RF M0 S hk L h2 h3 hlt
end
end Go.Proofs.YtdbpglhdicmhhaaGreatDoor.qp
end

section
namespace Go.Proofs.YtdbpglhdicmhhaaGreatDoor.iM
open Go.RowKit Go.Proofs.YtdbpglhdicmhhaaGreatDoorW.aI Go.Proofs.YtdbpglhdicmhhaaGreatDoorW.aX Go.Proofs.YtdbpglhdicmhhaaGreatDoorW.aZ
section
variable {P : Program} {ops : Array Oper} {rest : List Oper} {o : Oper} {a : Act} {Q : Exit → Act → World → Prop} {es : List TypeId} {w0 W W1 : World} {l : List (Nat × Array Value × TypeId)} {rows : List Row} {fx : List (Nat × Obj)}
theorem bf.box (M : bf es w0 W l fx rows) {g : Nat} {cs : Array Value} {t : TypeId} (hg : g = W.heap.size) (hbox : W1.heap[g]? = some (.cells cs t (0,0))) (hb : Below W.heap.size W W1) (ht : t ∉ es) : bf es w0 W1 (l ++ [(g,cs,t)]) fx rows :=
 ⟨M.mem.box hg hbox hb ht,(M.call hb).fix,M.part⟩
theorem fB (M : ah (bf es w0 W l fx rows)) (N : Tmp) (cs : Array Value) (t : TypeId)
  (h : ∀ g w1,ah (bf es w0 w1 (l ++ [(g,cs,t)]) fx rows) → wpList P ops Q rest (a.put o.dst (.pointer (some ⟨g,0,none⟩))) w1)
  (hd : o.dst = some N:=by with_reducible rfl) (hgd : o.guard = none:=by with_reducible rfl) (he : t ∉ es:=by decide)
  (hr : (execOp a.eval o).run P W = .ok (.value (.pointer (some ⟨W.heap.size,0,none⟩))) (W.alloc (.cells cs t (0,0))):=by first | (go_simp; done) | (go_simp; rfl)) :
  wpList P ops Q (o :: rest) a W :=
 dV hgd hd hr fun g hg w1 hbox hb => h g w1 ⟨M.out.box hg hbox hb he⟩
theorem fW (M : ah (bf es w0 W l fx rows)) (t : TypeId) (p : Tmp) (i : Nat) (new : Array Value) {g : Nat} {old : Array Value} {tb : TypeId} {x : Operand}
  (h : ∀ w',ah (bf es w0 w' (l.set i (g,new,tb)) fx rows) → wpList P ops Q rest a w')
  (hi : l[i]? = some (g,old,tb)) (hso : old.size = new.size) (h1 : new.all (·.oneCell') = true)
  (ho : o.op = .store t (.tmp p) x:=by with_reducible rfl) (hn : o.dst = none:=by with_reducible rfl) (hgd : o.guard = none:=by with_reducible rfl)
  (hx : a.eval (.tmp p) = .pointer (some ⟨g,0,none⟩):=by first | rfl | (go_simp; done) | (go_simp; rfl)) (hv : a.eval x = .agg new:=by first | rfl | (go_simp; done) | (go_simp; rfl))
  (hs : (P.info? t).map (·.size) = some new.size:=by kernel_rfl) :
  wpList P ops Q (o :: rest) a W :=
 CY hgd ho hn g old new hx hv (M.out.mem.at i hi) hs hso h1 fun w' hn' hk hb => h w' ⟨M.out.other (Mem.keep M.out.mem i hi hn' hk (hb w0 M.out.mem.below (M.out.mem.ge i hi))) (fun q y hy => hk.2 y.1 (jk (M.out.fix q y hy).1) (M.out.FZ i q hi hy) (by simp))⟩
end
end Go.Proofs.YtdbpglhdicmhhaaGreatDoor.iM
end
