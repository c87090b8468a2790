import Derived.Test.YtdbpglhdicmhhaaGreatDoorMPr24
import Derived.Test.YtdbpglhdicmhhaaGreatDoorMPr13
import Derived.Test.YtdbpglhdicmhhaaGreatDoorMPr4
set_option maxHeartbeats 8000000
set_option maxRecDepth 100000
set_option linter.unusedVariables false
set_option linter.unusedSimpArgs false
section
namespace Go.Proofs.YtdbpglhdicmhhaaGreatDoor.qp
open Go.RowKit Go.Shelf Go.Proofs.YtdbpglhdicmhhaaGreatDoorW.aI Go.Proofs.YtdbpglhdicmhhaaGreatDoorW.aX Go.Proofs.YtdbpglhdicmhhaaGreatDoorW.aZ iM
open Go.Proofs.YtdbpglhdicmhhaaGreatDoor.GA
theorem zX {k : Nat} {w0 W : World} {gr : Nat} {l : List (Nat × Array Value × TypeId)} {h : Hd} {s : St} (M : dX k w0 W gr l h s) {gw n c : Nat} {ws : List ByteArray} (L : Line l gw n c ws) : gw < W.heap.size:=by
 obtain ⟨i,cur,hi,_⟩:=L.box
 exact jk (M.mem.mem.at (i + 1) (g:=gw) (cs:=cur) (t:=9) (by simpa using hi))
theorem NS {α β : Type} {γ : Type 1} (f : α → β → γ) (a : List α) (b : List β) (m : Nat) (x : α) (y : β) : List.zipWith f (a.set m x) (b.set m y) = (List.zipWith f a b).set m (f x y):=by
 induction a generalizing b m with
 | nil => simp
 | cons a0 a ih => cases b with
  | nil => simp
  | cons b0 b => cases m with
   | zero => rfl
   | succ m => show f a0 b0 :: List.zipWith f (a.set m x) (b.set m y) = _; rw [ih]; rfl
theorem NT {α β γ : Type} (f : α → β → γ) (a : List α) (b : List β) (m : Nat) (x : α) (y : β) : List.zipWith f (a.set m x) (b.set m y) = (List.zipWith f a b).set m (f x y):=by
 induction a generalizing b m with
 | nil => simp
 | cons a0 a ih => cases b with
  | nil => simp
  | cons b0 b => cases m with
   | zero => rfl
   | succ m => show f a0 b0 :: List.zipWith f (a.set m x) (b.set m y) = _; rw [ih]; rfl
theorem GV {vs : List Value} {tabs : List (Bool × List (Bool × List Int))} (h : vs.length = tabs.length) : (fF vs tabs).length = tabs.length:=by
 rw [fF,List.length_zipWith,h,Nat.min_self]
theorem QH {vs : List Value} {tabs : List (Bool × List (Bool × List Int))} (m : Nat) (v : Value) (t : Bool × List (Bool × List Int)) : iE (vs.set m v) (tabs.set m t) = (iE vs tabs).set m ⟨Kd.raw 4,46,v,t.2.map rD⟩:=by
 rw [iE,iE,NS]
theorem RI {vs : List Value} {tabs : List (Bool × List (Bool × List Int))} (m : Nat) (v : Value) (t : Bool × List (Bool × List Int)) : fF (vs.set m v) (tabs.set m t) = (fF vs tabs).set m [v,.bool t.1]:=by
 rw [fF,fF,NT]
theorem IB {s : St} {m : Nat} {t : Bool × List (Bool × List Int)} (hm : s.tabs.length = m + 1) (ht : s.tabs[m]? = some t) (c : Bool × List Int) : s.addCase c = { s with tabs:=s.tabs.set m (t.1,t.2 ++ [c]) }:=by
 unfold St.addCase
 rw [hm,show m + 1 - 1 = m from rfl,List.getD_eq_getElem?_getD,ht]; rfl
theorem Gp {q : List Int} {l0 l1 : Int} (h0 : q[0]? = some l0) (h1 : q[1]? = some l1) : BO true q = (true,[l0,l1,0]):=by
 unfold BO; rw [List.getD_eq_getElem?_getD,h0,List.getD_eq_getElem?_getD,h1]; rfl
theorem Gn {q : List Int} {l0 l1 l2 : Int} (h0 : q[0]? = some l0) (h1 : q[1]? = some l1) (h2 : q[2]? = some l2) : BO false q = (false,[l0,l1,l2]):=by
 unfold BO; rw [List.getD_eq_getElem?_getD,h0,List.getD_eq_getElem?_getD,h1,List.getD_eq_getElem?_getD,h2]; rfl
theorem vO.addCase {k : Nat} {s : St} (h : vO k s) (m : Nat) {t : Bool × List (Bool × List Int)} (ht : s.tabs[m]? = some t) (c : Bool × List Int) : vO (k + 1) { s with tabs:=s.tabs.set m (t.1,t.2 ++ [c]) }:=by
 refine ⟨Nat.le_succ_of_le h.code,Nat.le_succ_of_le h.funcs,by show (s.tabs.set _ _).length ≤ _; rw [List.length_set]; exact Nat.le_succ_of_le h.tabs,Nat.le_succ_of_le h.ins,Nat.le_succ_of_le h.opn,Nat.le_succ_of_le h.uses,fun x hx => ?_⟩
 rcases List.mem_or_eq_of_mem_set hx with hx | rfl
 ·exact Nat.le_succ_of_le (h.cs x hx)
 ·have:=h.cs t (List.mem_of_getElem? ht)
  show (t.2 ++ [c]).length ≤ k + 1
  rw [List.length_append]; simp; omega
theorem KA {es : List TypeId} {w0 W : World} {l : List (Nat × Array Value × TypeId)} {fx : List (Nat × Obj)} {vc vf vt vi vo vu : Value} {gf gt gl : Nat} {of ot ol : Obj} {vs : List Value} {s : St} {m : Nat} {v v5 : Value} {t : Bool × List (Bool × List Int)} {c : Bool × List Int}
  (M : bf es w0 W l fx (⟨Kd.raw 2,44,vt,(fF vs s.tabs).set m ([v,.bool t.1].take 0 ++ [v5] ++ [v,.bool t.1].drop (0 + [v5].length))⟩ :: (((dO ⟨vc,vf,vt,vi,vo,vu,gf,gt,gl,of,ot,ol,vs⟩ s).set (m + 6) ⟨Kd.raw 4,46,v5,t.2.map rD ++ [rD c]⟩).eraseIdx 2))) :
  bf es w0 W l fx (dO ⟨vc,vf,vt,vi,vo,vu,gf,gt,gl,of,ot,ol,vs.set m v5⟩ { s with tabs:=s.tabs.set m (t.1,t.2 ++ [c]) }):=by
 have h:=bf.back 2 (by rw [List.length_set]; show 2 < (dO _ _).length; simp [dO]) M
 have e1:=RI (vs:=vs) (tabs:=s.tabs) m v5 (t.1,t.2 ++ [c])
 have e2:=QH (vs:=vs) (tabs:=s.tabs) m v5 (t.1,t.2 ++ [c])
 rw [show (t.1,t.2 ++ [c]).2.map rD = t.2.map rD ++ [rD c] from List.map_append] at e2
 have key : ∀ A B,A = (fF vs s.tabs).set m [v5,.bool t.1] → B = (iE vs s.tabs).set m ⟨Kd.raw 4,46,v5,t.2.map rD ++ [rD c]⟩ → bf es w0 W l fx (⟨Kd.int .u32,39,vc,s.code⟩ :: ⟨Kd.raw 2,41,vf,s.funcs.map ints⟩ :: ⟨Kd.raw 2,44,vt,A⟩ :: ⟨Kd.raw 5,70,vi,s.ins.map ints⟩ :: ⟨Kd.int .i64,3,vo,s.opn⟩ :: ⟨Kd.raw 5,111,vu,s.uses.map zH⟩ :: B):=by
  intro A B hA hB
  rw [hA,hB]; exact h
 exact key _ _ e1 e2
section
variable {k : Nat} {w0 W : World} {gr : Nat} {l : List (Nat × Array Value × TypeId)} {h : Hd} {s : St} {gw n c : Nat} {s0 : ByteArray} {r : List ByteArray}
theorem U0 (M0 : dX k w0 W gr l h s) (S : Std w0) (hk : k < 262144) (L : Line l gw n c (s0 :: r)) (h0 : s0.data.toList = uo) (ht : s.tabs ≠ []) :
  Calls Tryz.prog 59 #[.pointer (some ⟨gr,0,none⟩),.slice (some ⟨gw,0,none⟩) n c] W fun z w' => z = .returned (.int .i64 (s.pick true r).2) ∧ ∃ h',dX (k + 1) w0 w' gr l h' (s.pick true r).1:=by
 obtain ⟨vc,vf,vt,vi,vo,vu,gf,gt,gl,of,ot,ol,vs⟩:=h
 obtain ⟨m,hm0⟩ : ∃ m,s.tabs.length = m + 1:=⟨s.tabs.length - 1,by have:=List.length_pos_iff.2 ht; omega⟩
 obtain ⟨t,UJ⟩ : ∃ t,s.tabs[m]? = some t:=⟨_,List.getElem?_eq_getElem (by omega)⟩
 obtain ⟨vq,hvm⟩ : ∃ v,vs[m]? = some v:=⟨_,List.getElem?_eq_getElem (by have:=M0.len; simp only at this; omega)⟩
 obtain ⟨n2,hn2⟩ : ∃ n,n = m + 1:=⟨_,rfl⟩
 obtain ⟨g2,c2,rfl,hc2⟩ : ∃ g c,vt = .slice (some ⟨g,0,none⟩) n2 c ∧ n2 ≤ c:=by
  have e : (fF vs s.tabs).length = n2:=by rw [GV (by have:=M0.len; exact this),hm0,hn2]
  rcases bf.slice M0.mem 2 rfl with ⟨_,_,h2⟩ | ⟨g,c,h1,h2⟩
  ·rw [h2,hn2] at e; cases e
  ·exact ⟨g,c,by rw [← e]; exact h1,by rw [← e]; exact h2⟩
 have hrow : (dO ⟨vc,vf,.slice (some ⟨g2,0,none⟩) n2 c2,vi,vo,vu,gf,gt,gl,of,ot,ol,vs⟩ s)[m + 6]? = some ⟨Kd.raw 4,46,vq,t.2.map rD⟩:=by
  show (iE vs s.tabs)[m]? = _
  rw [iE,List.getElem?_zipWith,hvm,UJ]
 have hlc : (dO ⟨vc,vf,.slice (some ⟨g2,0,none⟩) n2 c2,vi,vo,vu,gf,gt,gl,of,ot,ol,vs⟩ s).length = m + 7:=by
  show (iE vs s.tabs).length + 6 = m + 7
  rw [iE,List.length_zipWith,(show vs.length = _ from M0.len),Nat.min_self,hm0]
 have htc : (fF vs s.tabs)[m]? = some [vq,.bool t.1]:=by
  rw [fF,List.getElem?_zipWith,hvm,UJ]
 have HM0:=Lib.hid hm0
 have HTM:=Lib.hid UJ
 have abu:=Lib.hid hrow
 have HLC:=Lib.hid hlc
 have HTC:=Lib.hid htc
 have HC2:=Lib.hid hc2
 have Qp:=Lib.hid hn2
 have HMK:=Lib.hid (show m < 262144 by have:=M0.few.tabs; omega)
 have BN:=Lib.hid (show ((t.2.map rD).length + 1) * 32 ≤ 140737488355328 by have:=M0.few.cs t (List.mem_of_getElem? UJ); rw [List.length_map]; omega)
 have HF2:=Lib.hid (fun c => vO.addCase M0.few m UJ c)
 clear hm0 UJ hvm hrow hlc htc hc2 ht hn2
 have SS:=Lib.hid S
 have HK:=Lib.hid hk
 have HL:=Lib.hid L
 have HGW:=Lib.hid (zX M0 L)
 have hn : r.length + 1 = n:=by have:=L.len; rw [List.length_cons] at this; exact this
 have hcap : n ≤ c:=L.cap
 have Ae:=Lib.hid (M0.few.mono (Nat.le_succ k))
 have qP:=Lib.hid (M0.says.mono (Nat.le_succ k))
 have HLEN:=Lib.hid M0.len
 have M:=ah.mk M0
 have x0:=M0.word L (j:=0) rfl
 have e1 : (s0.toList == [114,101,99,118]) = false:=by rw [ByteArray.toList_eq,h0]; rfl
 have e2 : (s0.toList == [115,101,110,100]) = true:=by rw [ByteArray.toList_eq,h0]; rfl
 have e3 : s0.toList = [115,101,110,100]:=by rw [ByteArray.toList_eq]; exact h0
 have hpos : 0 < n:=by omega
 have uQ : (0 : Int) < (n : Int):=by omega
 clear M0 S hk L h0
 go_enter Tryz.func59,Tryz.ntmps59
 by_cases hm : n = 3
 ·have hrl : r.length = 2:=by omega
  subst hm
  have HRL:=Lib.hid hrl
  obtain ⟨q,hq⟩ : ∃ q,q = Q.fD [] 0 (bl r):=⟨_,rfl⟩
  have HQ:=Lib.hid hq
  have hRG:=aa3 M.out SS.out HL.out 2 (c - 1) (by omega) (by omega) HGW.out
  rw [show r.take 2 = r from List.take_of_length_le (by omega),← hq] at hRG
  have Yu:=Lib.hid hRG
  clear hRG hq hrl hn
  go_wp2_with fail
  refine Yu.out.mono ?_
  rintro e w1 ⟨v,rfl,MF⟩
  have M1:=ah.mk MF
  clear MF x0 M
  by_cases hq2 : q.2 = 0
  ·have HT:=Lib.hid (TU (s:=s) (send:=true) HRL.out (by rw [← HQ.out]; exact hq2))
   have b2 : (q.2 != 0) = false:=by rw [hq2]; rfl
   have iK:=Lib.hid (show q.1.length = 2 by have h1:=Q.xC (bl r) [] 0 (by rw [← HQ.out,hq2]; decide); rw [← HQ.out] at h1; rw [h1]; show 0 + (r.map _).length = 2; rw [List.length_map,HRL.out])
   clear hq2
   obtain ⟨gv,cv,rfl,hcv⟩ : ∃ gv cv,v = .slice (some ⟨gv,0,none⟩) 2 cv ∧ 2 ≤ cv:=by
    rcases bf.slice M1.out 0 rfl with ⟨_,_,h2⟩ | ⟨g,c,h1,h2⟩
    ·have:=iK.out; rw [h2] at this; cases this
    ·exact ⟨g,c,by rw [h1,iK.out],by rw [← iK.out]; exact h2⟩
   obtain ⟨l0,hl0⟩ : ∃ x,q.1[0]? = some x:=⟨_,List.getElem?_eq_getElem (by rw [iK.out]; decide)⟩
   obtain ⟨l1,hl1⟩ : ∃ x,q.1[1]? = some x:=⟨_,List.getElem?_eq_getElem (by rw [iK.out]; decide)⟩
   go_wp2_with fail
   refine gQ [12] [(⟨gw,0,none⟩,.string s0),(⟨gv,0,none⟩,.int .i64 l0),(⟨gv,1,none⟩,.int .i64 l1)] M1 ?_ (fun w' MD fV => ?_)
   ·intro c hc
    simp only [List.mem_cons,List.not_mem_nil,or_false] at hc
    rcases hc with rfl | rfl | rfl
    ·obtain ⟨i,cur,hi,hw⟩:=HL.out.box
     exact (M1.out.mem.cell (i + 1) (by simpa using hi) 0).trans (hw 0 s0 rfl)
    ·exact M1.out.zV 0 rfl hl0 (by decide)
    ·exact M1.out.zV 0 rfl hl1 (by decide)
   clear M1
   refine kP 0 27 (.slice (some ⟨gw,0,none⟩) 3 c) ?_
   simp only [Act.put,bF,bH,bG]
   refine kP 1 28 (.pointer (some ⟨gw,0,none⟩)) ?_
   simp only [Act.put,bF,bH,bG]
   refine kE fV 2 29 0 ?_
   simp only [Act.put,bF,bH,bG]
   refine kP 3 30 (.bool true) ?_
   simp only [Act.put,bF,bH,bG]
   refine kP 4 31 (.slice (some ⟨gv,0,none⟩) 2 cv) ?_
   simp only [Act.put,bF,bH,bG]
   refine kP 5 32 (.pointer (some ⟨gv,0,none⟩)) ?_
   simp only [Act.put,bF,bH,bG]
   refine kE fV 6 33 1 ?_
   simp only [Act.put,bF,bH,bG]
   refine kP 7 34 (.slice (some ⟨gv,0,none⟩) 2 cv) ?_
   simp only [Act.put,bF,bH,bG]
   refine kP 8 35 (.pointer (some ⟨gv,1,none⟩)) ?_
   simp only [Act.put,bF,bH,bG]
   refine kE fV 9 36 2 ?_
   simp only [Act.put,bF,bH,bG]
   refine kP 10 37 (.agg #[.bool true,.int .i64 l0,.int .i64 l1,.int .i64 0]) ?_
   simp only [Act.put,bF,bH,bG]
   refine kR [11] ?_
   refine kBr MD fV 11 8 [.bool false,.int .i64 0,.int .i64 0,.int .i64 0] 46 (by decide) (by decide) ?_ aK.nil
   clear MD fV
   intro g8 w8 ME D9
   simp only [Act.put,bF,bH,bG]
   refine kR [12] ?_
   refine Xo ME 12 46 (.tmp 8) 0 0 (.agg #[.bool true,.int .i64 l0,.int .i64 l1,.int .i64 0]) [.bool true,.int .i64 l0,.int .i64 l1,.int .i64 0] [.bool false,.int .i64 0,.int .i64 0,.int .i64 0] (by decide) rfl ?_ rfl (by intro q hq; simp at hq; rcases hq with rfl | rfl | rfl | rfl <;> rfl) (Nat.le_refl 4) aK.nil rfl
   clear ME D9
   intro w9 MG
   refine iG ?_
   have Yu:=Lib.hid True.intro
   have Yz:=ah.mk (show bf vk w0 w9 _ _ (⟨Kd.raw 4,46,.slice (some ⟨g8,0,none⟩) 1 1,[[.bool true,.int .i64 l0,.int .i64 l1,.int .i64 0]]⟩ :: _ :: _) from MG.out)
   clear MG
   have y0 : w9.cell? ⟨g8,0,none⟩ = some (.bool true):=Yz.out.elem 0 rfl (i:=0) rfl (by decide) 0 rfl
   have YA:=ah.mk ((Yz.out.fQ Mem.tail).fQ Mem.tail)
   have KK:=ah.mk (show ∀ (j : Nat) (u : Value),[Value.bool true,.int .i64 l0,.int .i64 l1,.int .i64 0][j]? = some u → w9.cell? ⟨g8,0 * 4 + j,none⟩ = some u from fun j u hu => Yz.out.elem 0 rfl (i:=0) rfl (by decide) j hu)
   clear Yz
   have x2 : w9.cell? ⟨gr,2,none⟩ = some (.slice (some ⟨g2,0,none⟩) n2 c2):=bY YA.out 2 rfl
   have wsub : wrap64 ((n2 : Int) - 1) = (m : Int):=by rw [Qp.out,Int.natCast_add,show ((m : Int) + (1 : Nat)) - 1 = m by omega]; exact IntWalk.wrap64_in _ (by have:=HMK.out; omega)
   have b5 : (m : Int) < (n2 : Int):=by rw [Qp.out]; omega
   have b6 : m < n2:=by rw [Qp.out]; omega
   have b7 : n2 ≤ c2:=HC2.out
   go_wp2_with fail
   go_quiet (fail)
   have MI:=ah.mk (YA.out.call (aj (Below.refl _ _) nq))
   have KT:=ah.mk (show Know [(⟨g2,m * 2,none⟩,vq),(⟨g8,0,none⟩,.bool true),(⟨g8,1,none⟩,.int .i64 l0),(⟨g8,2,none⟩,.int .i64 l1),(⟨g8,3,none⟩,.int .i64 0)] (w9.drewN nq) from Know.below (W:=w9.drewN nq) (w:=w9) (fun c hc => by
    simp only [List.mem_cons,List.not_mem_nil,or_false] at hc
    rcases hc with rfl | rfl | rfl | rfl | rfl
    ·exact YA.out.elem 2 rfl HTC.out b6 0 rfl
    ·exact KK.out 0 _ rfl
    ·exact KK.out 1 _ rfl
    ·exact KK.out 2 _ rfl
    ·exact KK.out 3 _ rfl) (aj (Below.refl _ _) nq))
   clear YA KK x2 y0
   revert MI KT
   generalize w9.drewN nq = w10
   intro MI KT
   go_wp2_with fail
   refine gQ [7,10] _ MI KT.out (fun Qg MD fV => ?_)
   clear MI KT
   refine kP 0 58 (.pointer (some ⟨g2,m * 2,none⟩)) ?_
   simp only [Act.put,bF,bH,bG]
   refine kP 1 59 (.pointer (some ⟨g2,m * 2,none⟩)) ?_
   simp only [Act.put,bF,bH,bG]
   refine kP 2 60 (.pointer (some ⟨g2,m * 2,none⟩)) ?_
   simp only [Act.put,bF,bH,bG]
   refine kP 3 61 (.pointer (some ⟨g2,m * 2,none⟩)) ?_
   simp only [Act.put,bF,bH,bG]
   refine kE fV 4 62 0 ?_
   simp only [Act.put,bF,bH,bG]
   refine kM fV 5 63 g8 0 [Value.bool true,.int .i64 l0,.int .i64 l1,.int .i64 0] Tryz.underlying46 (fun j u hj => by rcases j with _ | _ | _ | _ | j <;> simp at hj <;> subst hj <;> simp) ?_
   simp only [Act.put,bF,bH,bG]
   refine kR [6] ?_
   refine kBs fV 6 64 [Value.bool true,.int .i64 l0,.int .i64 l1,.int .i64 0] 46 (fun D9 => ?_) aK.nil
   simp only [Act.put,bF,bH,bG]
   clear fV D9
   have MF:=ah.mk (bf.front MD.out (m + 6) abu.out)
   clear MD
   refine kR [7] ?_
   refine kAp MF 7 65 [Value.bool true,.int .i64 l0,.int .i64 l1,.int .i64 0] [Value.bool true,.int .i64 l0,.int .i64 l1,.int .i64 0] (.agg #[.bool false,.int .i64 0,.int .i64 0,.int .i64 0]) 32 BN.out ?_ ⟨rfl,rfl,fun u hu => by simp at hu; rcases hu with rfl | rfl | rfl | rfl <;> rfl⟩ rfl (by decide) aK.nil
   clear MF
   intro v5 w12 MG
   obtain ⟨A5,n5,c5,rfl⟩ : ∃ A n c,v5 = .slice A n c:=by
    obtain ⟨A,c,h⟩:=Kd.iy (MG.out.mem.owns 0 _ rfl)
    exact ⟨A,_,c,h⟩
   simp only [Act.put,bF,bH,bG]
   have MT:=ah.mk (bf.front (bf.back (m + 6) (by rw [HLC.out]; omega) MG.out) 2 rfl)
   have ONE:=Lib.hid (bf.one MG.out 0 rfl)
   clear MG
   refine kP 8 66 (.pointer (some ⟨g2,m * 2,none⟩)) ?_
   simp only [Act.put,bF,bH,bG]
   refine kP 9 67 (.pointer (some ⟨g2,m * 2,none⟩)) ?_
   simp only [Act.put,bF,bH,bG]
   refine kR [10] ?_
   refine Xo MT 10 42 (.tmp 67) m 0 _ [_] [vq,.bool t.1] b6 HTC.out ?_ rfl (by intro q hq; rw [List.mem_singleton] at hq; subst hq; exact ONE.out) (by show 1 ≤ 2; decide) aK.nil rfl
   clear MT ONE
   intro w13 MU
   refine iG ?_
   have MV:=ah.mk (KA (c:=(true,[l0,l1,0])) MU.out)
   clear MU
   go_wp2
   go_returns
   rw [HT.out]
   have HE:=IB HM0.out HTM.out (BO true (Q.fD [] 0 (bl r)).1)
   rw [← HQ.out,Gp hl0 hl1] at HE
   rw [← HQ.out,Gp hl0 hl1,HE]
   exact ⟨rfl,⟨vc,vf,.slice (some ⟨g2,0,none⟩) n2 c2,vi,vo,vu,gf,gt,gl,of,ot,ol,vs.set m (.slice A5 n5 c5)⟩,MV.out,HF2.out _,⟨qP.out.f,qP.out.t,qP.out.l⟩,by show (vs.set _ _).length = (s.tabs.set _ _).length; rw [List.length_set,List.length_set]; exact HLEN.out⟩
  ·have HT:=Lib.hid (Kz (s:=s) (send:=true) HRL.out (by rw [← HQ.out]; exact hq2))
   have b2 : (q.2 != 0) = true:=bne_iff_ne.mpr hq2
   clear hq2
   go_wp2
   go_returns
   rw [HT.out,← HQ.out]
   exact ⟨rfl,_,M1.out.fQ Mem.tail,Ae.out,qP.out,HLEN.out⟩
 ·have b1 : ((n : Int) != 3) = true:=bne_iff_ne.mpr (by omega)
  have b2 : ((n : Int) == 3) = false:=beq_eq_false_iff_ne.mpr (by omega)
  have HT:=Lib.hid (KC (s:=s) (send:=true) (rest:=r) (by show r.length ≠ 2; omega))
  clear hm hn
  go_wp2
  go_returns
  rw [HT.out]
  exact ⟨rfl,_,M.out.more⟩
theorem UZ (M0 : dX k w0 W gr l h s) (S : Std w0) (hk : k < 262144) (L : Line l gw n c (s0 :: r)) (h0 : s0.data.toList = wR) (ht : s.tabs ≠ []) :
  Calls Tryz.prog 59 #[.pointer (some ⟨gr,0,none⟩),.slice (some ⟨gw,0,none⟩) n c] W fun z w' => z = .returned (.int .i64 (s.pick false r).2) ∧ ∃ h',dX (k + 1) w0 w' gr l h' (s.pick false r).1:=by
 obtain ⟨vc,vf,vt,vi,vo,vu,gf,gt,gl,of,ot,ol,vs⟩:=h
 obtain ⟨m,hm0⟩ : ∃ m,s.tabs.length = m + 1:=⟨s.tabs.length - 1,by have:=List.length_pos_iff.2 ht; omega⟩
 obtain ⟨t,UJ⟩ : ∃ t,s.tabs[m]? = some t:=⟨_,List.getElem?_eq_getElem (by omega)⟩
 obtain ⟨vq,hvm⟩ : ∃ v,vs[m]? = some v:=⟨_,List.getElem?_eq_getElem (by have:=M0.len; simp only at this; omega)⟩
 obtain ⟨n2,hn2⟩ : ∃ n,n = m + 1:=⟨_,rfl⟩
 obtain ⟨g2,c2,rfl,hc2⟩ : ∃ g c,vt = .slice (some ⟨g,0,none⟩) n2 c ∧ n2 ≤ c:=by
  have e : (fF vs s.tabs).length = n2:=by rw [GV (by have:=M0.len; exact this),hm0,hn2]
  rcases bf.slice M0.mem 2 rfl with ⟨_,_,h2⟩ | ⟨g,c,h1,h2⟩
  ·rw [h2,hn2] at e; cases e
  ·exact ⟨g,c,by rw [← e]; exact h1,by rw [← e]; exact h2⟩
 have hrow : (dO ⟨vc,vf,.slice (some ⟨g2,0,none⟩) n2 c2,vi,vo,vu,gf,gt,gl,of,ot,ol,vs⟩ s)[m + 6]? = some ⟨Kd.raw 4,46,vq,t.2.map rD⟩:=by
  show (iE vs s.tabs)[m]? = _
  rw [iE,List.getElem?_zipWith,hvm,UJ]
 have hlc : (dO ⟨vc,vf,.slice (some ⟨g2,0,none⟩) n2 c2,vi,vo,vu,gf,gt,gl,of,ot,ol,vs⟩ s).length = m + 7:=by
  show (iE vs s.tabs).length + 6 = m + 7
  rw [iE,List.length_zipWith,(show vs.length = _ from M0.len),Nat.min_self,hm0]
 have htc : (fF vs s.tabs)[m]? = some [vq,.bool t.1]:=by
  rw [fF,List.getElem?_zipWith,hvm,UJ]
 have HM0:=Lib.hid hm0
 have HTM:=Lib.hid UJ
 have abu:=Lib.hid hrow
 have HLC:=Lib.hid hlc
 have HTC:=Lib.hid htc
 have HC2:=Lib.hid hc2
 have Qp:=Lib.hid hn2
 have HMK:=Lib.hid (show m < 262144 by have:=M0.few.tabs; omega)
 have BN:=Lib.hid (show ((t.2.map rD).length + 1) * 32 ≤ 140737488355328 by have:=M0.few.cs t (List.mem_of_getElem? UJ); rw [List.length_map]; omega)
 have HF2:=Lib.hid (fun c => vO.addCase M0.few m UJ c)
 clear hm0 UJ hvm hrow hlc htc hc2 ht hn2
 have SS:=Lib.hid S
 have HK:=Lib.hid hk
 have HL:=Lib.hid L
 have HGW:=Lib.hid (zX M0 L)
 have hn : r.length + 1 = n:=by have:=L.len; rw [List.length_cons] at this; exact this
 have hcap : n ≤ c:=L.cap
 have Ae:=Lib.hid (M0.few.mono (Nat.le_succ k))
 have qP:=Lib.hid (M0.says.mono (Nat.le_succ k))
 have HLEN:=Lib.hid M0.len
 have M:=ah.mk M0
 have x0:=M0.word L (j:=0) rfl
 have e1 : (s0.toList == [114,101,99,118]) = true:=by rw [ByteArray.toList_eq,h0]; rfl
 have e2 : (s0.toList == [115,101,110,100]) = false:=by rw [ByteArray.toList_eq,h0]; rfl
 have e3 : s0.toList = [114,101,99,118]:=by rw [ByteArray.toList_eq]; exact h0
 have hpos : 0 < n:=by omega
 have uQ : (0 : Int) < (n : Int):=by omega
 clear M0 S hk L h0
 go_enter Tryz.func59,Tryz.ntmps59
 by_cases hm : n = 4
 ·have hrl : r.length = 3:=by omega
  subst hm
  have HRL:=Lib.hid hrl
  obtain ⟨q,hq⟩ : ∃ q,q = Q.fD [] 0 (bl r):=⟨_,rfl⟩
  have HQ:=Lib.hid hq
  have hRG:=aa3 M.out SS.out HL.out 3 (c - 1) (by omega) (by omega) HGW.out
  rw [show r.take 3 = r from List.take_of_length_le (by omega),← hq] at hRG
  have Yu:=Lib.hid hRG
  clear hRG hq hrl hn
  go_wp2_with fail
  refine Yu.out.mono ?_
  rintro e w1 ⟨v,rfl,MF⟩
  have M1:=ah.mk MF
  clear MF x0 M
  by_cases hq2 : q.2 = 0
  ·have HT:=Lib.hid (TU (s:=s) (send:=false) HRL.out (by rw [← HQ.out]; exact hq2))
   have b2 : (q.2 != 0) = false:=by rw [hq2]; rfl
   have iK:=Lib.hid (show q.1.length = 3 by have h1:=Q.xC (bl r) [] 0 (by rw [← HQ.out,hq2]; decide); rw [← HQ.out] at h1; rw [h1]; show 0 + (r.map _).length = 3; rw [List.length_map,HRL.out])
   clear hq2
   obtain ⟨gv,cv,rfl,hcv⟩ : ∃ gv cv,v = .slice (some ⟨gv,0,none⟩) 3 cv ∧ 3 ≤ cv:=by
    rcases bf.slice M1.out 0 rfl with ⟨_,_,h2⟩ | ⟨g,c,h1,h2⟩
    ·have:=iK.out; rw [h2] at this; cases this
    ·exact ⟨g,c,by rw [h1,iK.out],by rw [← iK.out]; exact h2⟩
   obtain ⟨l0,hl0⟩ : ∃ x,q.1[0]? = some x:=⟨_,List.getElem?_eq_getElem (by rw [iK.out]; decide)⟩
   obtain ⟨l1,hl1⟩ : ∃ x,q.1[1]? = some x:=⟨_,List.getElem?_eq_getElem (by rw [iK.out]; decide)⟩
   go_wp2_with fail
   refine gQ [12] [(⟨gw,0,none⟩,.string s0),(⟨gv,0,none⟩,.int .i64 l0),(⟨gv,1,none⟩,.int .i64 l1)] M1 ?_ (fun w' MD fV => ?_)
   ·intro c hc
    simp only [List.mem_cons,List.not_mem_nil,or_false] at hc
    rcases hc with rfl | rfl | rfl
    ·obtain ⟨i,cur,hi,hw⟩:=HL.out.box
     exact (M1.out.mem.cell (i + 1) (by simpa using hi) 0).trans (hw 0 s0 rfl)
    ·exact M1.out.zV 0 rfl hl0 (by decide)
    ·exact M1.out.zV 0 rfl hl1 (by decide)
   clear M1
   refine kP 0 27 (.slice (some ⟨gw,0,none⟩) 4 c) ?_
   simp only [Act.put,bF,bH,bG]
   refine kP 1 28 (.pointer (some ⟨gw,0,none⟩)) ?_
   simp only [Act.put,bF,bH,bG]
   refine kE fV 2 29 0 ?_
   simp only [Act.put,bF,bH,bG]
   refine kP 3 30 (.bool false) ?_
   simp only [Act.put,bF,bH,bG]
   refine kP 4 31 (.slice (some ⟨gv,0,none⟩) 3 cv) ?_
   simp only [Act.put,bF,bH,bG]
   refine kP 5 32 (.pointer (some ⟨gv,0,none⟩)) ?_
   simp only [Act.put,bF,bH,bG]
   refine kE fV 6 33 1 ?_
   simp only [Act.put,bF,bH,bG]
   refine kP 7 34 (.slice (some ⟨gv,0,none⟩) 3 cv) ?_
   simp only [Act.put,bF,bH,bG]
   refine kP 8 35 (.pointer (some ⟨gv,1,none⟩)) ?_
   simp only [Act.put,bF,bH,bG]
   refine kE fV 9 36 2 ?_
   simp only [Act.put,bF,bH,bG]
   refine kP 10 37 (.agg #[.bool false,.int .i64 l0,.int .i64 l1,.int .i64 0]) ?_
   simp only [Act.put,bF,bH,bG]
   refine kR [11] ?_
   refine kBr MD fV 11 8 [.bool false,.int .i64 0,.int .i64 0,.int .i64 0] 46 (by decide) (by decide) ?_ aK.nil
   clear MD fV
   intro g8 w8 ME D9
   simp only [Act.put,bF,bH,bG]
   refine kR [12] ?_
   refine Xo ME 12 46 (.tmp 8) 0 0 (.agg #[.bool false,.int .i64 l0,.int .i64 l1,.int .i64 0]) [.bool false,.int .i64 l0,.int .i64 l1,.int .i64 0] [.bool false,.int .i64 0,.int .i64 0,.int .i64 0] (by decide) rfl ?_ rfl (by intro q hq; simp at hq; rcases hq with rfl | rfl | rfl | rfl <;> rfl) (Nat.le_refl 4) aK.nil rfl
   clear ME D9
   intro w9 MG
   refine iG ?_
   have Yu:=Lib.hid True.intro
   have Yz:=ah.mk (show bf vk w0 w9 _ _ (⟨Kd.raw 4,46,.slice (some ⟨g8,0,none⟩) 1 1,[[.bool false,.int .i64 l0,.int .i64 l1,.int .i64 0]]⟩ :: _ :: _) from MG.out)
   clear MG
   have y0 : w9.cell? ⟨g8,0,none⟩ = some (.bool false):=Yz.out.elem 0 rfl (i:=0) rfl (by decide) 0 rfl
   obtain ⟨l2,hl2⟩ : ∃ x,q.1[2]? = some x:=⟨_,List.getElem?_eq_getElem (by rw [iK.out]; decide)⟩
   have z2 : w9.cell? ⟨gv,2,none⟩ = some (.int .i64 l2):=Yz.out.zV 1 rfl hl2 (by decide)
   go_wp2_with (first
    | ((with_reducible refine aU (t:=3) (p:=44) rfl ?_); refine fE Yz 3 (.tmp 44) 0 3 (.int .i64 l2) [.int .i64 l2] [.bool false,.int .i64 l0,.int .i64 l1,.int .i64 0] (by decide) rfl ?_ rfl (by intro q hq; rw [List.mem_singleton] at hq; subst hq; rfl) (Nat.le_refl 4) rfl; clear Yz; intro w9b MG2_))
   have MG2:=ah.mk (show bf vk w0 w9b _ _ (⟨Kd.raw 4,46,.slice (some ⟨g8,0,none⟩) 1 1,[[.bool false,.int .i64 l0,.int .i64 l1,.int .i64 l2]]⟩ :: _ :: _) from MG2_.out)
   clear MG2_ z2
   have YA:=ah.mk ((MG2.out.fQ Mem.tail).fQ Mem.tail)
   have KK:=ah.mk (show ∀ (j : Nat) (u : Value),[Value.bool false,.int .i64 l0,.int .i64 l1,.int .i64 l2][j]? = some u → w9b.cell? ⟨g8,0 * 4 + j,none⟩ = some u from fun j u hu => MG2.out.elem 0 rfl (i:=0) rfl (by decide) j hu)
   clear MG2
   have x2 : w9b.cell? ⟨gr,2,none⟩ = some (.slice (some ⟨g2,0,none⟩) n2 c2):=bY YA.out 2 rfl
   have wsub : wrap64 ((n2 : Int) - 1) = (m : Int):=by rw [Qp.out,Int.natCast_add,show ((m : Int) + (1 : Nat)) - 1 = m by omega]; exact IntWalk.wrap64_in _ (by have:=HMK.out; omega)
   have b5 : (m : Int) < (n2 : Int):=by rw [Qp.out]; omega
   have b6 : m < n2:=by rw [Qp.out]; omega
   have b7 : n2 ≤ c2:=HC2.out
   try go_wp2_with fail
   go_quiet (fail)
   have MI:=ah.mk (YA.out.call (aj (Below.refl _ _) nq))
   have KT:=ah.mk (show Know [(⟨g2,m * 2,none⟩,vq),(⟨g8,0,none⟩,.bool false),(⟨g8,1,none⟩,.int .i64 l0),(⟨g8,2,none⟩,.int .i64 l1),(⟨g8,3,none⟩,.int .i64 l2)] (w9b.drewN nq) from Know.below (W:=w9b.drewN nq) (w:=w9b) (fun c hc => by
    simp only [List.mem_cons,List.not_mem_nil,or_false] at hc
    rcases hc with rfl | rfl | rfl | rfl | rfl
    ·exact YA.out.elem 2 rfl HTC.out b6 0 rfl
    ·exact KK.out 0 _ rfl
    ·exact KK.out 1 _ rfl
    ·exact KK.out 2 _ rfl
    ·exact KK.out 3 _ rfl) (aj (Below.refl _ _) nq))
   clear YA KK x2
   revert MI KT
   generalize w9b.drewN nq = w10
   intro MI KT
   go_wp2_with fail
   refine gQ [7,10] _ MI KT.out (fun Qg MD fV => ?_)
   clear MI KT
   refine kP 0 58 (.pointer (some ⟨g2,m * 2,none⟩)) ?_
   simp only [Act.put,bF,bH,bG]
   refine kP 1 59 (.pointer (some ⟨g2,m * 2,none⟩)) ?_
   simp only [Act.put,bF,bH,bG]
   refine kP 2 60 (.pointer (some ⟨g2,m * 2,none⟩)) ?_
   simp only [Act.put,bF,bH,bG]
   refine kP 3 61 (.pointer (some ⟨g2,m * 2,none⟩)) ?_
   simp only [Act.put,bF,bH,bG]
   refine kE fV 4 62 0 ?_
   simp only [Act.put,bF,bH,bG]
   refine kM fV 5 63 g8 0 [Value.bool false,.int .i64 l0,.int .i64 l1,.int .i64 l2] Tryz.underlying46 (fun j u hj => by rcases j with _ | _ | _ | _ | j <;> simp at hj <;> subst hj <;> simp) ?_
   simp only [Act.put,bF,bH,bG]
   refine kR [6] ?_
   refine kBs fV 6 64 [Value.bool false,.int .i64 l0,.int .i64 l1,.int .i64 l2] 46 (fun D9 => ?_) aK.nil
   simp only [Act.put,bF,bH,bG]
   clear fV D9
   have MF:=ah.mk (bf.front MD.out (m + 6) abu.out)
   clear MD
   refine kR [7] ?_
   refine kAp MF 7 65 [Value.bool false,.int .i64 l0,.int .i64 l1,.int .i64 l2] [Value.bool false,.int .i64 l0,.int .i64 l1,.int .i64 l2] (.agg #[.bool false,.int .i64 0,.int .i64 0,.int .i64 0]) 32 BN.out ?_ ⟨rfl,rfl,fun u hu => by simp at hu; rcases hu with rfl | rfl | rfl | rfl <;> rfl⟩ rfl (by decide) aK.nil
   clear MF
   intro v5 w12 MG
   obtain ⟨A5,n5,c5,rfl⟩ : ∃ A n c,v5 = .slice A n c:=by
    obtain ⟨A,c,h⟩:=Kd.iy (MG.out.mem.owns 0 _ rfl)
    exact ⟨A,_,c,h⟩
   simp only [Act.put,bF,bH,bG]
   have MT:=ah.mk (bf.front (bf.back (m + 6) (by rw [HLC.out]; omega) MG.out) 2 rfl)
   have ONE:=Lib.hid (bf.one MG.out 0 rfl)
   clear MG
   refine kP 8 66 (.pointer (some ⟨g2,m * 2,none⟩)) ?_
   simp only [Act.put,bF,bH,bG]
   refine kP 9 67 (.pointer (some ⟨g2,m * 2,none⟩)) ?_
   simp only [Act.put,bF,bH,bG]
   refine kR [10] ?_
   refine Xo MT 10 42 (.tmp 67) m 0 _ [_] [vq,.bool t.1] b6 HTC.out ?_ rfl (by intro q hq; rw [List.mem_singleton] at hq; subst hq; exact ONE.out) (by show 1 ≤ 2; decide) aK.nil rfl
   clear MT ONE
   intro w13 MU
   refine iG ?_
   have MV:=ah.mk (KA (c:=(false,[l0,l1,l2])) MU.out)
   clear MU
   go_wp2
   go_returns
   rw [HT.out]
   have HE:=IB HM0.out HTM.out (BO false (Q.fD [] 0 (bl r)).1)
   rw [← HQ.out,Gn hl0 hl1 hl2] at HE
   rw [← HQ.out,Gn hl0 hl1 hl2,HE]
   exact ⟨rfl,⟨vc,vf,.slice (some ⟨g2,0,none⟩) n2 c2,vi,vo,vu,gf,gt,gl,of,ot,ol,vs.set m (.slice A5 n5 c5)⟩,MV.out,HF2.out _,⟨qP.out.f,qP.out.t,qP.out.l⟩,by show (vs.set _ _).length = (s.tabs.set _ _).length; rw [List.length_set,List.length_set]; exact HLEN.out⟩
  ·have HT:=Lib.hid (Kz (s:=s) (send:=false) HRL.out (by rw [← HQ.out]; exact hq2))
   have b2 : (q.2 != 0) = true:=bne_iff_ne.mpr hq2
   clear hq2
   go_wp2
   go_returns
   rw [HT.out,← HQ.out]
   exact ⟨rfl,_,M1.out.fQ Mem.tail,Ae.out,qP.out,HLEN.out⟩
 ·have b1 : ((n : Int) != 4) = true:=bne_iff_ne.mpr (by omega)
  have b2 : ((n : Int) == 4) = false:=beq_eq_false_iff_ne.mpr (by omega)
  have HT:=Lib.hid (KC (s:=s) (send:=false) (rest:=r) (by show r.length ≠ 3; omega))
  clear hm hn
  go_wp2
  go_returns
  rw [HT.out]
  exact ⟨rfl,_,M.out.more⟩
end
end Go.Proofs.YtdbpglhdicmhhaaGreatDoor.qp
end

section
namespace Go.Proofs.YtdbpglhdicmhhaaGreatDoor.dH
open Go.RowKit Go.Proofs.YtdbpglhdicmhhaaGreatDoor.abA Go.Proofs.YtdbpglhdicmhhaaGreatDoorW.aI
theorem Yj (s : ByteArray) (h : ∀ k < 58,((rowAt k).1.toList == s.toList) = false) (w : World) :
  Calls Tryz.prog 97 #[.string s] w fun e w' => e = .returned (.tuple #[.int .i64 0,.int .i64 60]) ∧ Below w.heap.size w w':=by
 have hu:=Tryz.underlying127
 have H:=Lib.hid h
 clear h
 go_enter Tryz.func97,Tryz.ntmps97
 go_wp2_with (first | (go_at_call 104; refine (uq _).mono ?_; rintro e w' ⟨rfl,hb⟩; obtain ⟨hc,hf⟩:=sG hb))
 go_loopw [7] (fun i wr => ∃ k : Nat,k ≤ 58 ∧ i = .int .i64 k ∧ Below w.heap.size w wr) (fun i _ => 58 - (intOf i).toNat)
 case atStart => exact ⟨0,by omega,rfl,hb⟩
 case round =>
  obtain ⟨k,hk,rfl,hbk⟩:=hrel
  by_cases hlt : k < 58
  ·have hs:=H.out k hlt
   have ix : ∀ w : World,(Instr.index 148 (.agg Vh) (.int .i64 k)).run Tryz.prog w = .ok (.agg #[.string (rowAt k).1,.int .i64 (rowAt k).2.1,.int .i64 (rowAt k).2.2.1,.string (rowAt k).2.2.2.1,.string (rowAt k).2.2.2.2]) w:=Ja k hlt
   generalize rowAt k = r at ix hs
   go_wp2
   exact ⟨⟨k + 1,by omega,by go_num,hbk.alloc hbk.size _⟩,by simp [intOf]; omega⟩
  ·go_wp2
   go_ret2
   exact ⟨rfl,hbk⟩
theorem Vq (s : ByteArray) (n : Nat) (hn : n < 58) (h : ∀ k < n,((rowAt k).1.toList == s.toList) = false) (hy : ((rowAt n).1.toList == s.toList) = true) (w : World) :
  Calls Tryz.prog 97 #[.string s] w fun e w' => e = .returned (.tuple #[.int .i64 (n + 1),.int .i64 0]) ∧ Below w.heap.size w w':=by
 have hu:=Tryz.underlying127
 have H:=Lib.hid h
 have HY:=Lib.hid hy
 clear h hy
 go_enter Tryz.func97,Tryz.ntmps97
 go_wp2_with (first | (go_at_call 104; refine (uq _).mono ?_; rintro e w' ⟨rfl,hb⟩; obtain ⟨hc,hf⟩:=sG hb))
 go_loopw [7] (fun i wr => ∃ k : Nat,k ≤ n ∧ i = .int .i64 k ∧ Below w.heap.size w wr) (fun i _ => 58 - (intOf i).toNat)
 case atStart => exact ⟨0,by omega,rfl,hb⟩
 case round =>
  obtain ⟨k,hk,rfl,hbk⟩:=hrel
  have hlt : k < 58:=by omega
  have ix : ∀ w : World,(Instr.index 148 (.agg Vh) (.int .i64 k)).run Tryz.prog w = .ok (.agg #[.string (rowAt k).1,.int .i64 (rowAt k).2.1,.int .i64 (rowAt k).2.2.1,.string (rowAt k).2.2.2.1,.string (rowAt k).2.2.2.2]) w:=Ja k hlt
  by_cases hl : k < n
  ·have hs:=H.out k hl
   generalize rowAt k = r at ix hs
   go_wp2
   exact ⟨⟨k + 1,by omega,by go_num,hbk.alloc hbk.size _⟩,by simp [intOf]; omega⟩
  ·obtain rfl : k = n:=by omega
   have hs:=HY.out
   generalize rowAt k = r at ix hs
   go_wp2
   go_ret2
   exact ⟨rfl,hbk.alloc hbk.size _⟩
end Go.Proofs.YtdbpglhdicmhhaaGreatDoor.dH
end

section
namespace Go.Proofs.YtdbpglhdicmhhaaGreatDoor.GA
open Go.RowKit Go.Proofs.YtdbpglhdicmhhaaGreatDoorW.aI Go.Proofs.YtdbpglhdicmhhaaGreatDoorW.aX Go.Proofs.YtdbpglhdicmhhaaGreatDoorW.aZ
def sF.f (a0 : ByteArray) : Option (Int × Int) :=
 match (List.range 58).find? (fun k => (dH.rowAt k).1.toList == a0.toList) with
 | some n => some ((n : Int) + 1,0)
 | none => some (0,60)
theorem sF.calls (a0 : ByteArray) (r1 : Int) (r2 : Int) (w : World) (h : sF.f a0 = some (r1,r2)) :
  Calls Tryz.prog 97 #[.string a0] w fun e w' => e = .returned (.tuple #[.int .i64 r1,.int .i64 r2]) ∧ Below w.heap.size w w':=by
 unfold sF.f at h
 split at h
 ·rename_i n hf
  simp only [Option.some.injEq,Prod.mk.injEq] at h
  obtain ⟨rfl,rfl⟩:=h
  obtain ⟨hy,hn,hlow⟩:=List.find?_range_eq_some.1 hf
  exact dH.Vq a0 n (List.mem_range.1 hn) (fun k hk => by simpa using hlow k hk) hy w
 ·rename_i hf
  simp only [Option.some.injEq,Prod.mk.injEq] at h
  obtain ⟨rfl,rfl⟩:=h
  refine dH.Yj a0 (fun k hk => ?_) w
  have:=List.find?_eq_none.1 hf k (List.mem_range.2 hk)
  simpa using this
end Go.Proofs.YtdbpglhdicmhhaaGreatDoor.GA
end
