import Derived.Test.YtdbpglhdicmhhaaGreatDoorMLi23
import Derived.Test.YtdbpglhdicmhhaaGreatDoorMLi19
set_option linter.unusedVariables false
set_option linter.unusedSimpArgs false
section
namespace Go.Proofs.YtdbpglhdicmhhaaGreatDoor.Hof
open Go.RowKit Go.Shelf Go.Proofs.YtdbpglhdicmhhaaGreatDoorW.PrintWords Go.Proofs.YtdbpglhdicmhhaaGreatDoorW.PrintLast Go.Proofs.YtdbpglhdicmhhaaGreatDoorW.PrintMore Hctx
open Go.Proofs.YtdbpglhdicmhhaaGreatDoor.GA
def St.mark0 (s : St) : St:={ s with opn:=s.opn ++ [s.now] }
def St.mark (s : St) (b : ByteArray) : St × Int :=
 if Q.nameB b.data.toList = false then (s,70) else if s.idle then (s,74) else if (s.lm (s.funcs.length,b)).isSome then (s.mark0,72)
 else ({ s.mark0 with lm:=fun y => if y = ((s.funcs.length : Int),b) then some (s.ins.length : Int) else s.lm y },0)
theorem mark_name {s : St} {b : ByteArray} (h : Q.nameB b.data.toList = false) : s.mark b = (s,70):=if_pos h
theorem mark_idle {s : St} {b : ByteArray} (h : Q.nameB b.data.toList = true) (h2 : s.idle = true) : s.mark b = (s,74):=by unfold St.mark; rw [if_neg (by rw [h]; simp),if_pos h2]
theorem mark_twice {s : St} {b : ByteArray} (h : Q.nameB b.data.toList = true) (h2 : s.idle = false) (h3 : (s.lm (s.funcs.length,b)).isSome = true) : s.mark b = (s.mark0,72):=by
 unfold St.mark; rw [if_neg (by rw [h]; simp),if_neg (by rw [h2]; simp),if_pos h3]
theorem mark_new {s : St} {b : ByteArray} (h : Q.nameB b.data.toList = true) (h2 : s.idle = false) (h3 : (s.lm (s.funcs.length,b)).isSome = false) :
  s.mark b = ({ s.mark0 with lm:=fun y => if y = ((s.funcs.length : Int),b) then some (s.ins.length : Int) else s.lm y },0):=by
 unfold St.mark; rw [if_neg (by rw [h]; simp),if_neg (by rw [h2]; simp),if_neg (by rw [h3]; simp)]
theorem Few.mark {k : Nat} {s : St} (h : Few k s) : Few (k + 1) s.mark0:=by
 have:=h.opn
 exact ⟨Nat.le_succ_of_le h.code,Nat.le_succ_of_le h.funcs,Nat.le_succ_of_le h.tabs,Nat.le_succ_of_le h.ins,by show (s.opn ++ _).length ≤ _; simp; omega,Nat.le_succ_of_le h.uses,fun t ht => Nat.le_succ_of_le (h.cs t ht)⟩
theorem RdM.more {k : Nat} {w0 W : World} {gr : Nat} {l : List (Nat × Array Value × TypeId)} {h : Hd} {s : St} (M : RdM k w0 W gr l h s) : RdM (k + 1) w0 W gr l h s:=⟨M.mem,M.few.mono (Nat.le_succ k),M.says.mono (Nat.le_succ k),M.len⟩
theorem forget1 {es : List TypeId} {w0 W : World} {x b : Nat × Array Value × TypeId} {l : List (Nat × Array Value × TypeId)} {fx : List (Nat × Obj)} {rows : List Row} (M : MemF es w0 W (x :: (l ++ [b])) fx rows) : MemF es w0 W (x :: l) fx rows:=by
 have:=M.forget (l.length + 1)
 rwa [show (x :: (l ++ [b])).take (l.length + 1) = x :: l by simp] at this
theorem last_box {x b : Nat × Array Value × TypeId} {l : List (Nat × Array Value × TypeId)} : (x :: (l ++ [b]))[l.length + 1]? = some b:=by simp
theorem set_last {x b b' : Nat × Array Value × TypeId} {l : List (Nat × Array Value × TypeId)} : (x :: (l ++ [b])).set (l.length + 1) b' = x :: (l ++ [b']):=by simp
theorem labInj : ∀ x y : Int × ByteArray,labK x = labK y → x = y:=fun x y h => by
 obtain ⟨a,b⟩:=x; obtain ⟨c,d⟩:=y
 injection h with h
 have h1:=congrArg Array.toList h
 simp at h1
 exact Prod.ext h1.1 h1.2
theorem labLaw : Maps.Keyed Tryz.prog 113:=Maps.Keyed.of_law (deep_law (m:=2) (by omega) (by kernel_rfl) (by kernel_rfl) (by kernel_rfl))
set_option maxRecDepth 100000 in
theorem labKey {n : Int} {b : ByteArray} (hn : (Lit.int .i64 n).wf = true) (hb : b.size ≤ maxLen) : ∃ kl,keyOf Tryz.prog 113 (.agg #[.int .i64 n,.string b]) = some kl:=by
 unfold keyOf
 rw [Tryz.underlying113]
 have h1 : Tryz.prog.keyType 113 = true:=by kernel_rfl
 have h2 : (Value.agg #[.int .i64 n,.string b]).formed Tryz.prog 113 = true:=by kernel_rfl
 have hc : Tryz.prog.cellsOf 113 = 2:=by kernel_rfl
 have hc3 : Tryz.prog.cellsOf 3 = 1:=by kernel_rfl
 have hc9 : Tryz.prog.cellsOf 9 = 1:=by kernel_rfl
 have h3 : ∃ L,Tryz.prog.keyLits (Tryz.prog.types.size + 1) 113 (Value.agg #[.int .i64 n,.string b]).cells.toList = some L:=by
  obtain ⟨m,hm⟩ : ∃ m,Tryz.prog.types.size = m + 1:=⟨Tryz.prog.types.size - 1,by kernel_rfl⟩
  rw [hm]
  have e3 : Tryz.prog.keyLits (m + 1) 3 [.int .i64 n] = some [.int .i64 n]:=by
   unfold Program.keyLits; rw [Tryz.underlying3]
   simp [hn]
  have e9 : Tryz.prog.keyLits (m + 1) 9 [.string b] = some [.string b.data.toList]:=by
   unfold Program.keyLits; rw [Tryz.underlying9]
   simp [hb]
  refine ⟨[.int .i64 n,.string b.data.toList],?_⟩
  show Tryz.prog.keyLits (m + 1 + 1) 113 [.int .i64 n,.string b] = _
  unfold Program.keyLits; rw [Tryz.underlying113]
  simp [hc,hc3,hc9,e3,e9]
 obtain ⟨L,hL⟩:=h3
 refine ⟨.string (keyBytes L),?_⟩
 simp only [h1,h2,Bool.and_self,if_true,hL]
 rfl
section
variable {k : Nat} {w0 W : World} {gr : Nat} {l : List (Nat × Array Value × TypeId)} {h : Hd} {s : St} {b : ByteArray}
set_option maxHeartbeats 4000000 in
set_option maxRecDepth 100000 in
theorem mark_calls (M0 : RdM k w0 W gr l h s) (S : Std w0) (hk : k < 262144) (hb : b.size ≤ 262144) :
  Calls Tryz.prog 61 #[.pointer (some ⟨gr,0,none⟩),.string b] W fun z w' => z = .returned (.int .i64 (s.mark b).2) ∧ ∃ h',RdM (k + 1) w0 w' gr l h' (s.mark b).1:=by
 have HK:=Lib.hid hk
 have HBS:=Lib.hid hb
 have HNM:=Lib.hid (fun W => name_calls b hb W)
 obtain ⟨vc,vf,vt,vi,vo,vu,gf,gt,gl,of,ot,ol,vs⟩:=h
 obtain ⟨A1,c1,rfl⟩ : ∃ A c,vf = .slice A s.funcs.length c:=by
  obtain ⟨A,c,he⟩:=Kd.R_slice (M0.mem.mem.owns 1 _ rfl)
  exact ⟨A,c,by rw [show s.funcs.length = (s.funcs.map ints).length by simp]; exact he⟩
 obtain ⟨A3,c3,rfl⟩ : ∃ A c,vi = .slice A s.ins.length c:=by
  obtain ⟨A,c,he⟩:=Kd.R_slice (M0.mem.mem.owns 3 _ rfl)
  exact ⟨A,c,by rw [show s.ins.length = (s.ins.map ints).length by simp]; exact he⟩
 obtain ⟨A7,c7,rfl⟩ : ∃ A c,vo = .slice A s.opn.length c:=Kd.R_slice (M0.mem.mem.owns 4 _ rfl)
 have HL64:=Lib.hid (show ((s.opn.length + 1) * 8 ≤ 140737488355328) by have:=M0.few.opn; omega)
 have HFEW:=Lib.hid M0.few
 have HSAY:=Lib.hid M0.says
 have HLEN:=Lib.hid M0.len
 have M:=Aside0.mk M0
 clear M0 S hk hb
 go_enter Tryz.func61,Tryz.ntmps61
 go_wp2_with fail
 refine (HNM.out _).mono ?_
 rintro e w1 ⟨rfl,hd⟩
 have M1:=Aside0.mk (M.out.call (below_d0 hd))
 clear M hd
 cases hnb : Q.nameB b.data.toList with
 | false =>
  have HT:=Lib.hid (mark_name (s:=s) hnb)
  clear hnb
  go_wp2
  go_returns
  rw [HT.out]
  exact ⟨rfl,_,M1.out.more⟩
 | true =>
  have HNB:=Lib.hid hnb
  clear hnb
  have x9:=rcell M1.out.mem 9 rfl
  cases hid : s.idle with
  | true =>
   have HT:=Lib.hid (mark_idle HNB.out hid)
   rw [hid] at x9
   clear hid
   go_wp2
   go_returns
   rw [HT.out]
   exact ⟨rfl,_,M1.out.more⟩
  | false =>
   have HID:=Lib.hid hid
   rw [hid] at x9
   clear hid
   go_wp2_with fail
   have M3:=Aside0.mk (show MemF esR w0 w1 ((gr,rcells vc (.slice A1 s.funcs.length c1) vt (.slice A3 s.ins.length c3) gf gt gl (.slice A7 s.opn.length c7) s.cases false vu s.wrong s.line s.now,55) :: l) (fxR ⟨vc,.slice A1 s.funcs.length c1,vt,.slice A3 s.ins.length c3,.slice A7 s.opn.length c7,vu,gf,gt,gl,of,ot,ol,vs⟩) (rowsR ⟨vc,.slice A1 s.funcs.length c1,vt,.slice A3 s.ins.length c3,.slice A7 s.opn.length c7,vu,gf,gt,gl,of,ot,ol,vs⟩ s) from by
    have h:=M1.out.mem
    unfold RMem at h
    rw [← HID.out]
    exact h)
   clear M1 x9
   refine fStart [13] [] M3 (fun w' MD => ?_)
   clear M3
   refine dP 0 15 (.pointer (some ⟨gr,0,none⟩)) ?_
   simp only [Act.put,sAz,sCz,sCs]
   refine dP 1 16 (.pointer (some ⟨gr,0,none⟩)) ?_
   simp only [Act.put,sAz,sCz,sCs]
   refine dP 2 17 (.pointer (some ⟨gr,0,none⟩)) ?_
   simp only [Act.put,sAz,sCz,sCs]
   refine dP 3 18 (.pointer (some ⟨gr,7,none⟩)) ?_
   simp only [Act.put,sAz,sCz,sCs]
   refine dC (Aside0.mk MD.out.mem) 4 19 0 7 (.slice A7 s.opn.length c7) (hl:=List.take_length) ?_
   simp only [Act.put,sAz,sCz,sCs]
   refine dP 5 20 (.pointer (some ⟨gr,0,none⟩)) ?_
   simp only [Act.put,sAz,sCz,sCs]
   refine dP 6 21 (.pointer (some ⟨gr,0,none⟩)) ?_
   simp only [Act.put,sAz,sCz,sCs]
   refine dP 7 22 (.pointer (some ⟨gr,13,none⟩)) ?_
   simp only [Act.put,sAz,sCz,sCs]
   refine dC (Aside0.mk MD.out.mem) 8 23 0 13 (.int .i64 s.now) (hl:=List.take_length) ?_
   simp only [Act.put,sAz,sCz,sCs]
   refine dR [9] ?_
   refine fBs MD 9 24 [.int .i64 s.now] 3 ?_ AllReadyL.nil
   simp only [Act.put,sAz,sCz,sCs]
   have MF:=Aside0.mk (MemF.front MD.out 4 rfl)
   clear MD
   refine dR [10] ?_
   refine fAp MF 10 25 s.now [.int .i64 s.now] (.int .i64 0) 8 HL64.out ?_ rfl rfl (by decide) AllReadyL.nil
   clear MF
   intro v5 w6 MG
   simp only [Act.put,sAz,sCz,sCs]
   refine dP 11 26 (.pointer (some ⟨gr,0,none⟩)) ?_
   simp only [Act.put,sAz,sCz,sCs]
   refine dP 12 27 (.pointer (some ⟨gr,7,none⟩)) ?_
   simp only [Act.put,sAz,sCz,sCs]
   refine dR [13] ?_
   refine fC MG 13 52 27 0 7 v5 (rcells vc (.slice A1 s.funcs.length c1) vt (.slice A3 s.ins.length c3) gf gt gl v5 s.cases false vu s.wrong s.line s.now) ?_ rfl rfl (MemF.one MG.out 0 rfl) rfl AllReadyL.nil
   clear MG
   intro w7 MH
   refine dDone ?_
   have M4:=Aside0.mk (show RMem w0 w7 gr l ⟨vc,.slice A1 s.funcs.length c1,vt,.slice A3 s.ins.length c3,v5,vu,gf,gt,gl,of,ot,ol,vs⟩ s.mark0 from by
    have hb:=MemF.back 4 (by show 4 < (rowsR _ _).length; simp [rowsR]) MH.out
    have e : s.mark0.idle = false:=HID.out
    unfold RMem cellsR
    rw [e]
    exact hb)
   clear MH
   obtain ⟨kl,hkl⟩:=labKey (n:=(s.funcs.length : Int)) (b:=b) (wf64 (Nat.le_trans HFEW.out.funcs (by have:=HK.out; omega))) (by have:=HBS.out; unfold maxLen; omega)
   have HKL:=Lib.hid hkl
   clear hkl
   have x1 : w7.cell? ⟨gr,1,none⟩ = some (.slice A1 s.funcs.length c1):=rcell M4.out 1 rfl
   go_wp2_with (first
    | ((with_reducible refine gate_dst (N:=5) rfl ?_); refine fB (Aside0.mk M4.out) 5 #[.int .i64 0,.string ByteArray.empty] 113 ?_ ?a1 ?a2 ?a3 ?a4; (case a1 => rfl); (case a2 => rfl); (case a3 => decide); (case a4 => (first | (go_simp; done) | (go_simp; rfl))); clear M4; intro g5 w8 M5_; have M5:=Aside0.mk (show MemF esR w0 w8 (_ :: (l ++ [_])) _ _ from M5_.out); clear M5_)
    | ((with_reducible refine gate_store (t:=113) (p:=5) rfl ?_); refine fW M5 113 5 (l.length + 1) #[.int .i64 (s.funcs.length : Int),.string b] ?_ last_box rfl (by kernel_rfl); clear M5; intro w9 M6))
   have M7:=Aside0.mk (show RMem w0 w9 gr (l ++ [(g5,#[.int .i64 (s.funcs.length : Int),.string b],113)]) ⟨vc,.slice A1 s.funcs.length c1,vt,.slice A3 s.ins.length c3,v5,vu,gf,gt,gl,of,ot,ol,vs⟩ s.mark0 from by
    have h:=M6.out
    rw [set_last] at h
    exact h)
   clear M6 x1
   have x6 : w9.cell? ⟨gr,6,none⟩ = some (.map (some gl)):=rcell M7.out 6 rfl
   have y0 : w9.cell? ⟨g5,0,none⟩ = some (.int .i64 (s.funcs.length : Int)):=(M7.out.mem.cell (l.length + 1) last_box 0).trans rfl
   have y1 : w9.cell? ⟨g5,1,none⟩ = some (.string b):=(M7.out.mem.cell (l.length + 1) last_box 1).trans rfl
   have hlk : ∀ j,(Instr.lookup 50 (.map (some gl)) (.agg #[.int .i64 (s.funcs.length : Int),.string b]) true).run Tryz.prog (w9.drewN j) = .ok (.tuple #[.int .i64 ((s.lm (s.funcs.length,b)).getD 0),.bool (s.lm (s.funcs.length,b)).isSome]) (w9.drewN j):=fun j =>
    HSAY.out.l.look labLaw (by kernel_rfl) (by kernel_rfl) ((M7.out.drewN j).fix 2 _ rfl).1 (zero3 _) ((s.funcs.length : Int),b) HKL.out
   cases hso : (s.lm (s.funcs.length,b)).isSome with
   | true =>
    have HT:=Lib.hid (mark_twice HNB.out HID.out hso)
    rw [hso] at hlk
    go_wp2_with fail
    go_quiet (fail)
    have M8:=Aside0.mk (M7.out.call (pw_below_drewN (Below.refl _ _) nq))
    clear M7 hlk x6 y0 y1 hso
    go_wp2
    go_returns
    rw [HT.out]
    exact ⟨rfl,_,forget1 M8.out,HFEW.out.mark,⟨(HSAY.out.mono (Nat.le_succ k)).f,(HSAY.out.mono (Nat.le_succ k)).t,(HSAY.out.mono (Nat.le_succ k)).l⟩,HLEN.out⟩
   | false =>
    have HT:=Lib.hid (mark_new HNB.out HID.out hso)
    rw [hso] at hlk
    go_wp2_with fail
    go_quiet (fail)
    have M8:=Aside0.mk (M7.out.call (pw_below_drewN (Below.refl _ _) nq))
    clear M7 hlk x6 y0 y1 hso
    revert M8
    generalize w9.drewN nq = w10
    intro M8
    have x6 : w10.cell? ⟨gr,6,none⟩ = some (.map (some gl)):=rcell M8.out 6 rfl
    have x3 : w10.cell? ⟨gr,3,none⟩ = some (.slice A3 s.ins.length c3):=rcell M8.out 3 rfl
    have y0 : w10.cell? ⟨g5,0,none⟩ = some (.int .i64 (s.funcs.length : Int)):=(M8.out.mem.cell (l.length + 1) last_box 0).trans rfl
    have y1 : w10.cell? ⟨g5,1,none⟩ = some (.string b):=(M8.out.mem.cell (l.length + 1) last_box 1).trans rfl
    go_wp2_with fail
    go_still_tail 10,(by kernel_rfl)
    change wpList _ _ _ _ _ w10.drew
    have M9:=Aside0.mk (M8.out.call (below_drew (Below.refl _ _)))
    clear M8 x6 x3 y0 y1
    refine fM M9 2 rfl HSAY.out.l labLaw labInj (by kernel_rfl) (by kernel_rfl) (by have:=HK.out; unfold maxLen; omega) ((s.funcs.length : Int),b) HKL.out (s.ins.length : Int) (wf64 (Nat.le_trans HFEW.out.ins (by have:=HK.out; omega))) ?_
    intro w11 o' MA hm
    have HM:=Lib.hid hm
    clear hm M9
    go_wp2
    go_returns
    rw [HT.out]
    exact ⟨rfl,⟨vc,.slice A1 s.funcs.length c1,vt,.slice A3 s.ins.length c3,v5,vu,gf,gt,gl,of,ot,o',vs⟩,forget1 MA.out,HFEW.out.mark.like,⟨(HSAY.out.mono (Nat.le_succ k)).f,(HSAY.out.mono (Nat.le_succ k)).t,HM.out⟩,HLEN.out⟩
end
end Go.Proofs.YtdbpglhdicmhhaaGreatDoor.Hof
end

section
namespace Go.Proofs.YtdbpglhdicmhhaaGreatDoor.Hctx
open Go.RowKit Go.Proofs.YtdbpglhdicmhhaaGreatDoorW.PrintWords Go.Proofs.YtdbpglhdicmhhaaGreatDoorW.PrintLast Go.Proofs.YtdbpglhdicmhhaaGreatDoorW.PrintMore
def Know (K : List (Addr × Value)) (W : World) : Prop:=∀ c ∈ K,W.cell? c.1 = some c.2
theorem Know.below {K : List (Addr × Value)} {w W : World} (h : Know K w) (hb : Below w.heap.size w W) : Know K W:=fun c hc => (hb.cell (World.block_lt_of_cell? w c.1 (h c hc))).trans (h c hc)
section
variable {P : Program} {ops : Array Oper} {md : Region.Mode} {o : Oper} {a : Act} {Q : Exit → Act → World → Prop} {e : List TypeId} {w0 w W : World} {l : List (Nat × Array Value × TypeId)} {K : List (Addr × Value)} {rows : List Row} {fx : List (Nat × Obj)} {fuel : Nat} {listed : Array Bool} {ds : List Nat}
theorem kStart {id : Nat} (ds : List Nat) (K : List (Addr × Value)) (M : Aside0 (MemF e w0 W l fx rows)) (hK : Know K W)
  (h : ∀ W',Aside0 (MemF e w0 W' l fx rows) → Aside0 (Know K W') → wpAnyLast P .any ops (NoPanic Q) (Know K) ds ops.size (Array.replicate ops.size false) a W')
  (hm : P.follows .mixedOrders = true:=by kernel_rfl) : (Code.region id ops true).wp P Q a W:=by
 refine wp_region_noPanic ?_
 have h1 : Know K W.drew:=hK.below (below_drew (Below.refl _ _))
 exact wp_region_last_drew hm h1 (fun h2 => h _ ⟨M.out.drew⟩ ⟨h1⟩)
theorem kY (i : Nat) (N : Tmp) (u : Value) (HK : Aside0 (Know K w)) (hy : YieldsIf P ops (Know K) o u a)
  (h : wpAnyLast P md ops (NoPanic Q) (Know K) ds fuel (listed.setIfInBounds i true) (a.put (some N) u) w) (hoi : ops[i]? = some o) (hN : o.dst = some N)
  (hs : Region.noSelect ops = true) (hf : Region.free md ops listed i = true) (hr : (Region.ready md ops listed).contains i = true) (hc : Region.closedB md ops listed = true) (hla : Region.lastB md ops listed ds i = true) : wpAnyLast P md ops (NoPanic Q) (Know K) ds (fuel + 1) listed a w :=
 wpAnyLast_take hoi hs hf hr hc hla (fun _ _ _ h => h) hy HK.out (by rw [hN]; exact h)
theorem kE {ty : TypeId} (HK : Aside0 (Know K w)) (i : Nat) (N : Tmp) (k : Nat) {ad : Addr} {u : Value} {p : Tmp}
  (h : wpAnyLast P md ops (NoPanic Q) (Know K) ds fuel (listed.setIfInBounds i true) (a.put (some N) u) w)
  (hoi : ops[i]? = some o:=by rfl) (hN : o.dst = some N:=by rfl) (ho : o.op = .load ty (.tmp p):=by rfl) (hw : Region.wanted o (yielded ops a.tmps) = true:=by rfl)
  (hk : K[k]? = some (ad,u):=by rfl) (hx : a.eval (.tmp p) = .pointer (some ad):=by rfl) (hna : ∀ w,(isAgg ty).run P w = .ok false w:=by intro _; kernel_rfl)
  (hs : Region.noSelect ops = true:=by kernel_rfl) (hf : Region.free md ops listed i = true:=by kernel_rfl) (hr : (Region.ready md ops listed).contains i = true:=by kernel_rfl) (hc : Region.closedB md ops listed = true:=by kernel_rfl) (hla : Region.lastB md ops listed ds i = true:=by kernel_rfl) : wpAnyLast P md ops (NoPanic Q) (Know K) ds (fuel + 1) listed a w :=
 kY i N u HK (.inl ⟨hw,fun w' hw' => run_load_cell ho hx (hw' _ (List.mem_of_getElem? hk)) hna⟩) h hoi hN hs hf hr hc hla
theorem kM {ty : TypeId} {d : TypeDesc} (HK : Aside0 (Know K w)) (i : Nat) (N : Tmp) (g off : Nat) (us : List Value) (hu : P.underlying ty = some d) {p : Tmp}
  (hk : ∀ (j : Nat) (u : Value),us[j]? = some u → ((⟨g,off + j,none⟩ : Addr),u) ∈ K)
  (h : wpAnyLast P md ops (NoPanic Q) (Know K) ds fuel (listed.setIfInBounds i true) (a.put (some N) (.agg us.toArray)) w)
  (hoi : ops[i]? = some o:=by rfl) (hN : o.dst = some N:=by rfl) (ho : o.op = .load ty (.tmp p):=by rfl) (hw : Region.wanted o (yielded ops a.tmps) = true:=by rfl)
  (hx : a.eval (.tmp p) = .pointer (some ⟨g,off,none⟩):=by rfl) (hd : d.isRow = true:=by rfl) (hi : (P.info? ty).map (·.size) = some us.length:=by kernel_rfl)
  (hs : Region.noSelect ops = true:=by kernel_rfl) (hf : Region.free md ops listed i = true:=by kernel_rfl) (hr : (Region.ready md ops listed).contains i = true:=by kernel_rfl) (hc : Region.closedB md ops listed = true:=by kernel_rfl) (hla : Region.lastB md ops listed ds i = true:=by kernel_rfl) : wpAnyLast P md ops (NoPanic Q) (Know K) ds (fuel + 1) listed a w :=
 kY i N _ HK (yieldsIf_load_mid hw ty _ ho g off hx us d (fun w' hw' j u hu' => hw' _ (hk j u hu')) hu hd hi) h hoi hN hs hf hr hc hla
theorem kP {S : World → Prop} (i : Nat) (N : Tmp) (u : Value)
  (h : wpAnyLast P md ops (NoPanic Q) S ds fuel (listed.setIfInBounds i true) (a.put (some N) u) w)
  (hoi : ops[i]? = some o:=by rfl) (hN : o.dst = some N:=by rfl) (hw : Region.wanted o (yielded ops a.tmps) = true:=by rfl)
  (hy : ∀ w,(execOp a.eval o).run P w = .ok (.value u) w:=by intro _; first | rfl | (go_simp; done) | (go_simp; rfl))
  (hs : Region.noSelect ops = true:=by kernel_rfl) (hf : Region.free md ops listed i = true:=by kernel_rfl) (hr : (Region.ready md ops listed).contains i = true:=by kernel_rfl) : wpAnyLast P md ops (NoPanic Q) S ds (fuel + 1) listed a w :=
 wpAnyLast_any hoi (Region.noSelect_spec hs) (fun _ _ _ h => h) fuel listed a w (Region.free_spec hoi hf) (by simpa using hr) (.inl ⟨hw,hy⟩) (by rw [hN]; exact h)
theorem kR {S : World → Prop} (rs : List Nat) (h : AllReadyL P md ops Q S ds fuel listed a w rs) (hr : Region.ready md ops listed = rs:=by kernel_rfl) (hne : rs ≠ []:=by simp) : wpAnyLast P md ops Q S ds (fuel + 1) listed a w :=
 wpAnyLast_ready hr hne h
theorem kDone {S : World → Prop} (h : Q .normal a w) (hr : Region.ready md ops listed = []:=by kernel_rfl) : wpAnyLast P md ops (NoPanic Q) S ds fuel listed a w:=wpAnyLast_done hr (NoPanic.normal h) _
theorem kBs (HK : Aside0 (Know K w)) (i : Nat) (N : Tmp) (cs : List Value) (t : TypeId) {rs : List Nat}
  (h : Aside0 (Know K (w.alloc (.cells cs.toArray t))) → wpAnyLast P md ops Q (Know K) ds fuel (listed.setIfInBounds i true) (a.put (some N) (.slice (some ⟨w.heap.size,0,none⟩) 1 1)) (w.alloc (.cells cs.toArray t)))
  (hrest : AllReadyL P md ops Q (Know K) ds fuel listed a w rs)
  (hoi : ops[i]? = some o:=by rfl) (hN : o.dst = some N:=by rfl) (hw : Region.wanted o (yielded ops a.tmps) = true:=by rfl) (hd : i ∉ ds:=by decide)
  (hrun : (execOp a.eval o).run P w = .ok (.value (.slice (some ⟨w.heap.size,0,none⟩) 1 1)) (w.alloc (.cells cs.toArray t)):=by first | (go_simp; done) | (go_simp; rfl)) : AllReadyL P md ops Q (Know K) ds fuel listed a w (i :: rs):=by
 have hk1:=HK.out.below (below_alloc (Below.refl _ _) (.cells cs.toArray t))
 refine AllReadyL.cons hoi hd (fun K' hK' => ?_) hrest
 rw [if_pos hw]
 unfold Oper.wp
 rw [hrun]
 show K' (a.put o.dst _) _
 rw [hN]
 exact hK'.out _ _ hk1 (fun _ => h ⟨hk1⟩)
theorem kAp {S : World → Prop} {α : Type} {d : Kd α} {te : TypeId} {v : Value} {xs : List α} (M : Aside0 (MemF e w0 w l fx (⟨d,te,v,xs⟩ :: rows))) (i : Nat) (N : Tmp) (p : α) (cs : List Value) (z : Value) (bytes : Nat) {rs : List Nat} (hl64 : (xs.length + 1) * bytes ≤ 140737488355328)
  (h : ∀ v' w1,Aside0 (MemF e w0 w1 l fx (⟨d,te,v',xs ++ [p]⟩ :: rows)) → wpAnyLast P md ops Q S ds fuel (listed.setIfInBounds i true) (a.put (some N) v') w1)
  (hp : d.M w w0.heap.size (fun _ => False) p cs) (hz : z.cells.size = d.sz) (hs0 : 0 < d.sz)
  (hrest : AllReadyL P md ops Q S ds fuel listed a (w.alloc (.cells cs.toArray te)) rs)
  {s x : Operand} {t : TypeId} (hoi : ops[i]? = some o:=by rfl) (hN : o.dst = some N:=by rfl) (ho : o.op = .call { callee:=.builtin .append,args:=#[s,x],argTypes:=#[t,t] }:=by rfl) (hw : Region.wanted o (yielded ops a.tmps) = true:=by rfl) (hd : i ∈ ds:=by decide)
  (ht : P.underlying t = some (.slice te):=by kernel_rfl) (hinfo : (P.info? te).map (fun i => (i.zero,i.size,i.bytes)) = some (some z,d.sz,bytes):=by kernel_rfl)
  (hb0 : 0 < bytes:=by decide) (hs : a.eval s = v:=by rfl) (hx : a.eval x = .slice (some ⟨w.heap.size,0,none⟩) 1 1:=by rfl) : AllReadyL P md ops Q S ds fuel listed a (w.alloc (.cells cs.toArray te)) (i :: rs):=by
 have M0:=M.out.mem
 refine AllReadyL.cons_last hoi hd (fun K' hK' => ?_) hrest
 refine Kd.R_append_step d (w0:=w0) w0.heap.size hw s x t te z bytes ho ht hinfo hz hs0 hb0 v xs p cs (okOf (⟨d,te,v,xs⟩ :: rows) 0) (fun _ => False) hs hx hp (fun _ hk => hk.elim)
  (fun k hk => M0.okFresh 0 k hk) (M0.owns 0 _ rfl) M0.below M0.below.size hl64 (fun v1 w1 hR hB hg hat => ?_)
 have M1:=M.out.other (M0.written hB hg hR hat) (fun q y hy => hg.block y.1 (heap_lt (M.out.fix q y hy).1) (M.out.ne_row 0 q rfl hy))
 rw [hN]
 exact hK'.out _ _ (h v1 w1 ⟨M1⟩)
theorem kC {S : World → Prop} (M : Aside0 (MemF e w0 w l fx rows)) (i : Nat) (t : TypeId) (p : Tmp) (k j : Nat) (u : Value) (new : Array Value) {g : Nat} {cs : Array Value} {tb : TypeId} {x : Operand} {rs : List Nat}
  (h : ∀ w',Aside0 (MemF e w0 w' (l.set k (g,new,tb)) fx rows) → wpAnyLast P md ops Q S ds fuel (listed.setIfInBounds i true) a w')
  (hk : l[k]? = some (g,cs,tb)) (hj : (cs[j]?).isSome = true) (h1 : u.oneCell' = true) (hnew : cs.setIfInBounds j u = new)
  (hrest : AllReadyL P md ops Q S ds fuel listed a w rs)
  (hoi : ops[i]? = some o:=by rfl) (hn : o.dst = none:=by rfl) (hw : Region.wanted o (yielded ops a.tmps) = true:=by rfl) (hd : i ∈ ds:=by decide) (ho : o.op = .store t (.tmp p) x:=by rfl)
  (hx : a.eval (.tmp p) = .pointer (some ⟨g,j,none⟩):=by rfl) (hv : a.eval x = u:=by rfl) (hs : (P.info? t).map (·.size) = some 1:=by kernel_rfl) : AllReadyL P md ops Q S ds fuel listed a w (i :: rs):=by
 refine AllReadyL.cons_last hoi hd (fun K' hK' => ?_) hrest
 rw [if_pos hw]
 unfold Oper.wp
 rw [cell_run ho g j cs u hx hv (M.out.mem.at k hk) hj hs h1]
 show K' (a.put o.dst undef) _
 rw [hn]
 have M1:=M.out.mem.set k hk j u
 rw [hnew] at M1
 have hkb:=((KeepBut.refl w g none).set_ j u)
 exact hK'.out _ _ (h _ ⟨M.out.other M1 (fun q y hy => hkb.2 y.1 (heap_lt (M.out.fix q y hy).1) (M.out.ne_box k q hk hy) (by simp))⟩)
theorem kSe {S : World → Prop} {sz : Nat} {te : TypeId} {g n c : Nat} {xs : List (List Value)} (M : Aside0 (MemF e w0 w l fx (⟨Kd.raw sz,te,.slice (some ⟨g,0,none⟩) n c,xs⟩ :: rows))) (i : Nat) (t : TypeId) (p : Operand) (ix j : Nat) (u : Value) (seg x0 : List Value) {rs : List Nat} (hi : ix < n) (hx0 : xs[ix]? = some x0)
  (h : ∀ w',Aside0 (MemF e w0 w' l fx (⟨Kd.raw sz,te,.slice (some ⟨g,0,none⟩) n c,xs.set ix (x0.take j ++ seg ++ x0.drop (j + seg.length))⟩ :: rows)) → wpAnyLast P md ops Q S ds fuel (listed.setIfInBounds i true) a w')
  (hu : u.cells.toList = seg) (h1 : ∀ q ∈ seg,q.oneCell' = true) (hj : j + seg.length ≤ sz)
  (hrest : AllReadyL P md ops Q S ds fuel listed a w rs)
  {x : Operand} {off : Nat} (hoff : off = ix * sz + j) (hoi : ops[i]? = some o:=by rfl) (hn : o.dst = none:=by rfl) (hw : Region.wanted o (yielded ops a.tmps) = true:=by rfl) (hd : i ∈ ds:=by decide) (ho : o.op = .store t p x:=by rfl)
  (hx : a.eval p = .pointer (some ⟨g,off,none⟩):=by rfl) (hv : a.eval x = u:=by rfl) (hs : (P.info? t).map (·.size) = some seg.length:=by kernel_rfl) : AllReadyL P md ops Q S ds fuel listed a w (i :: rs):=by
 have M0:=M.out.mem
 have hR:=M0.owns 0 _ rfl
 obtain ⟨c0,hcl,hM,hcc,_⟩:=Kd.R_elem hR [] (ix : Int) (by omega) (by exact_mod_cast hi)
 rw [Int.toNat_natCast] at hM hcc
 have hgd0 : xs.getD ix [] = x0:=by rw [List.getD_eq_getElem?_getD,hx0]; rfl
 obtain ⟨e1,e2,e3⟩:=hM
 rw [hgd0] at e1
 subst e1
 have hlen : c0.length = sz:=e2
 have hseg:=Kd.R_seg hR (ix : Int) (by omega) (by exact_mod_cast hi) (seg:=seg) (j:=j) hcl (by rw [Int.toNat_natCast]; exact hcc) hj (x':=c0.take j ++ seg ++ c0.drop (j + seg.length)) (okp:=fun _ => False)
  ⟨rfl,by simp only [List.length_append,List.length_take,List.length_drop]; omega,fun q hq => by
   rcases List.mem_append.1 hq with hq | hq
   ·rcases List.mem_append.1 hq with hq | hq
    ·exact e3 q (List.mem_of_mem_take hq)
    ·exact h1 q hq
   ·exact e3 q (List.mem_of_mem_drop hq)⟩ (fun _ hk => hk.elim)
 obtain ⟨hR1,hg⟩:=hseg
 rw [Int.toNat_natCast] at hR1 hg
 have hbg : w0.heap.size ≤ g:=Kd.R_base hR g rfl
 obtain ⟨inner,hown⟩:=Kd.R_own hR
 have hrun : (Instr.storeAt t (.pointer (some ⟨g,ix * sz + j,none⟩)) u).run P w = .ok () (w.setCells g (ix * sz + j) seg):=by
  have hnx : n = xs.length:=(Kd.R_reads' hR).1
  rcases hown.2 with ⟨hv',_⟩ | ⟨g',cap',cur,hv',hb,hh,hnc,hcm,hcs,_⟩
  ·cases hv'
  injection hv' with ha _ hc
  injection ha with ha
  injection ha with hg'
  subst hg'; subst hc
  refine run_store_run t u seg hh hu hs ?_ h1
  have h2 : ix * sz + sz ≤ n * sz:=by rw [← Nat.succ_mul]; exact Nat.mul_le_mul_right _ hi
  have h3 : n * sz ≤ c * sz:=Nat.mul_le_mul_right _ (by have:=hnc; omega)
  have h4 : c * sz = cur.size:=hcs.symm
  omega
 have hB : Below w0.heap.size w0 (w.setCells g (ix * sz + j) seg):=setCells_below g hbg seg _ w M0.below
 refine AllReadyL.cons_last hoi hd (fun K' hK' => ?_) hrest
 rw [if_pos hw]
 unfold Oper.wp execOp
 subst hoff
 simp only [ho,hx,hv,Sem.run_bind,Sem.run_pure,Result.andThen_ok,hrun]
 show K' (a.put o.dst undef) _
 rw [hn]
 exact hK'.out _ _ (h _ ⟨M.out.other (M0.written hB hg hR1 (.inl rfl)) (fun q y hy => hg.block y.1 (heap_lt (M.out.fix q y hy).1) (M.out.ne_row 0 q rfl hy))⟩)
end
section
variable {P : Program} {ops : Array Oper} {rest : List Oper} {o : Oper} {a : Act} {Q : Exit → Act → World → Prop} {es : List TypeId} {w0 W W1 : World} {l : List (Nat × Array Value × TypeId)} {rows : List Row} {fx : List (Nat × Obj)}
theorem MemF.row {α : Type} {d : Kd α} {e : TypeId} {v : Value} {xs : List α} (M : MemF es w0 W l fx rows) (hb : Below W.heap.size W W1) (h : d.R e W1 W.heap.size (fun _ => True) v xs) (ht : ∀ q,q ∈ e :: d.E → q ∈ es) : MemF es w0 W1 l fx (⟨d,e,v,xs⟩ :: rows) :=
 ⟨M.mem.row hb h ht,(M.call hb).fix,M.part⟩
theorem fBr (M : Aside0 (MemF es w0 W l fx rows)) (N : Tmp) (cs : List Value) (t : TypeId) (h1 : ∀ u ∈ cs,u.oneCell' = true) (ht : t ∈ es)
  (h : ∀ g w1,Aside0 (MemF es w0 w1 l fx (⟨Kd.raw cs.length,t,.slice (some ⟨g,0,none⟩) 1 1,[cs]⟩ :: rows)) → wpList P ops Q rest (a.put o.dst (.pointer (some ⟨g,0,none⟩))) w1)
  (hd : o.dst = some N:=by with_reducible rfl) (hgd : o.guard = none:=by with_reducible rfl)
  (hr : (execOp a.eval o).run P W = .ok (.value (.pointer (some ⟨W.heap.size,0,none⟩))) (W.alloc (.cells cs.toArray t (0,0))):=by first | (go_simp; done) | (go_simp; rfl)) :
  wpList P ops Q (o :: rest) a W:=by
 refine Kd.event_run hgd hr (h _ _ ⟨M.out.row (below_alloc (Below.refl _ _) _) ⟨fun _ _ => trivial,cs,?_,?_⟩ (fun q hq => ?_)⟩)
 ·have h2:=World.ownsRow_lit (base:=W.heap.size) (e:=t) (size:=cs.length) W cs.toArray 1 (Nat.le_refl _) (by decide) (by simp)
  have h3 : (W.alloc (.cells cs.toArray t)).ownsRow W.heap.size t cs.length (.slice (some ⟨W.heap.size,0,none⟩) 1 1) 1 cs:=by simpa using h2
  exact h3
 ·refine ⟨by show cs.length = [cs].length * cs.length; simp,fun j p hj => ?_⟩
  cases j with
  | zero =>
   obtain rfl : cs = p:=by simpa using hj
   have e1 : (cs.drop (0 * (Kd.raw cs.length).sz)).take (Kd.raw cs.length).sz = cs:=by show (cs.drop (0 * cs.length)).take cs.length = cs; simp
   rw [e1]
   exact ⟨rfl,rfl,h1⟩
  | succ j => simp at hj
 ·rcases List.mem_cons.1 hq with rfl | hq
  ·exact ht
  ·cases hq
section
variable {ops : Array Oper} {md : Region.Mode} {w : World} {K : List (Addr × Value)} {fuel : Nat} {listed : Array Bool} {ds : List Nat}
theorem kBr (M : Aside0 (MemF es w0 w l fx rows)) (HK : Aside0 (Know K w)) (i : Nat) (N : Tmp) (cs : List Value) (t : TypeId) (h1 : ∀ u ∈ cs,u.oneCell' = true) (ht : t ∈ es) {rs : List Nat}
  (h : ∀ g w1,Aside0 (MemF es w0 w1 l fx (⟨Kd.raw cs.length,t,.slice (some ⟨g,0,none⟩) 1 1,[cs]⟩ :: rows)) → Aside0 (Know K w1) → wpAnyLast P md ops Q (Know K) ds fuel (listed.setIfInBounds i true) (a.put (some N) (.pointer (some ⟨g,0,none⟩))) w1)
  (hrest : AllReadyL P md ops Q (Know K) ds fuel listed a w rs)
  (hoi : ops[i]? = some o:=by rfl) (hN : o.dst = some N:=by rfl) (hw : Region.wanted o (yielded ops a.tmps) = true:=by rfl) (hd : i ∉ ds:=by decide)
  (hrun : (execOp a.eval o).run P w = .ok (.value (.pointer (some ⟨w.heap.size,0,none⟩))) (w.alloc (.cells cs.toArray t (0,0))):=by first | (go_simp; done) | (go_simp; rfl)) : AllReadyL P md ops Q (Know K) ds fuel listed a w (i :: rs):=by
 have hb:=below_alloc (Below.refl w.heap.size w) (.cells cs.toArray t (0,0))
 have hk1:=HK.out.below hb
 have M1 : MemF es w0 (w.alloc (.cells cs.toArray t (0,0))) l fx (⟨Kd.raw cs.length,t,.slice (some ⟨w.heap.size,0,none⟩) 1 1,[cs]⟩ :: rows):=by
  refine M.out.row hb ⟨fun _ _ => trivial,cs,?_,?_⟩ (fun q hq => ?_)
  ·have h2:=World.ownsRow_lit (base:=w.heap.size) (e:=t) (size:=cs.length) w cs.toArray 1 (Nat.le_refl _) (by decide) (by simp)
   have h3 : (w.alloc (.cells cs.toArray t)).ownsRow w.heap.size t cs.length (.slice (some ⟨w.heap.size,0,none⟩) 1 1) 1 cs:=by simpa using h2
   exact h3
  ·refine ⟨by show cs.length = [cs].length * cs.length; simp,fun j p hj => ?_⟩
   cases j with
   | zero =>
    obtain rfl : cs = p:=by simpa using hj
    have e1 : (cs.drop (0 * (Kd.raw cs.length).sz)).take (Kd.raw cs.length).sz = cs:=by show (cs.drop (0 * cs.length)).take cs.length = cs; simp
    rw [e1]
    exact ⟨rfl,rfl,h1⟩
   | succ j => simp at hj
  ·rcases List.mem_cons.1 hq with rfl | hq
   ·exact ht
   ·cases hq
 refine AllReadyL.cons hoi hd (fun K' hK' => ?_) hrest
 rw [if_pos hw]
 unfold Oper.wp
 rw [hrun]
 show K' (a.put o.dst _) _
 rw [hN]
 exact hK'.out _ _ hk1 (fun _ => h _ _ ⟨M1⟩ ⟨hk1⟩)
end
end
end Go.Proofs.YtdbpglhdicmhhaaGreatDoor.Hctx
end

section
namespace Go.Proofs.YtdbpglhdicmhhaaGreatDoor.Q
open Go.Lib
theorem regsV_len : ∀ (ws : List (List UInt8)) (acc : List Int) (e : Int),(regsV acc e ws).2 ≠ 70 → (regsV acc e ws).1.length = acc.length + ws.length
 | [],acc,e,_ => rfl
 | w :: r,acc,e,h => by
  rw [regsV] at h ⊢
  by_cases h70 : (regV w).2 = 70
  ·rw [if_pos h70] at h; exact absurd rfl h
  ·rw [if_neg h70] at h ⊢
   rw [regsV_len r _ _ h,List.length_append,List.length_cons]
   simp; omega
end Go.Proofs.YtdbpglhdicmhhaaGreatDoor.Q
end
