import Derived.Test.YtdbpglhdicmhhaaGreatDoorMPr4
import Derived.Test.YtdbpglhdicmhhaaGreatDoorMPr25
import Derived.Test.YtdbpglhdicmhhaaGreatDoorMPr15
import Derived.Test.YtdbpglhdicmhhaaGreatDoorMPr17
import Derived.Test.YtdbpglhdicmhhaaGreatDoorMPr14
set_option maxHeartbeats 8000000
set_option maxRecDepth 100000
set_option linter.unusedVariables false
set_option linter.unusedSimpArgs false
section
namespace Go.Proofs.YtdbpglhdicmhhaaGreatDoor.GA
open Go.RowKit Go.Proofs.YtdbpglhdicmhhaaGreatDoorW.aI Go.Proofs.YtdbpglhdicmhhaaGreatDoorW.aX Go.Proofs.YtdbpglhdicmhhaaGreatDoorW.aZ
def eU.f (a0 : Int) : Option (Bool):=if a0 = 17 then (some true) else (if a0 = 18 then (some true) else (if a0 = 19 then (some true) else (if a0 = 20 then (some true) else (if a0 = 22 then (some true) else (if a0 = 34 then (some true) else (some false))))))
theorem eU.calls (a0 : Int) (r : Bool) (w : World) (h : eU.f a0 = some r) :
  Calls Tryz.prog 99 #[.int .i64 a0] w fun e w' => e = .returned (.bool r) ∧ aV w w':=by
 have H : (if a0 = 17 then (some true) else (if a0 = 18 then (some true) else (if a0 = 19 then (some true) else (if a0 = 20 then (some true) else (if a0 = 22 then (some true) else (if a0 = 34 then (some true) else (some false))))))) = some r:=h
 clear h
 by_cases c2 : a0 = 17
 ·rw [if_pos c2] at H
  have DT : (a0 == 17) = true:=beq_iff_eq.mpr c2
  have QC : (a0 != 17) = false:=bne_eq_false_iff_eq.mpr c2
  clear c2
  obtain rfl:=Option.some.inj H
  go_enter Tryz.func99,Tryz.ntmps99
  go_wp2
  go_ret
  exact ⟨by first | rfl | (simp; done) | (simp [*]; done),by repeat (first | exact aV.refl _ | apply aV.step)⟩
 ·rw [if_neg c2] at H
  have DT : (a0 == 17) = false:=beq_eq_false_iff_ne.mpr c2
  have QC : (a0 != 17) = true:=bne_iff_ne.mpr c2
  by_cases c3 : a0 = 18
  ·rw [if_pos c3] at H
   have rC : (a0 == 18) = true:=beq_iff_eq.mpr c3
   have Ag : (a0 != 18) = false:=bne_eq_false_iff_eq.mpr c3
   clear c3
   obtain rfl:=Option.some.inj H
   go_enter Tryz.func99,Tryz.ntmps99
   go_wp2
   go_ret
   exact ⟨by first | rfl | (simp; done) | (simp [*]; done),by repeat (first | exact aV.refl _ | apply aV.step)⟩
  ·rw [if_neg c3] at H
   have rC : (a0 == 18) = false:=beq_eq_false_iff_ne.mpr c3
   have Ag : (a0 != 18) = true:=bne_iff_ne.mpr c3
   by_cases c4 : a0 = 19
   ·rw [if_pos c4] at H
    have wU : (a0 == 19) = true:=beq_iff_eq.mpr c4
    have BK : (a0 != 19) = false:=bne_eq_false_iff_eq.mpr c4
    clear c4
    obtain rfl:=Option.some.inj H
    go_enter Tryz.func99,Tryz.ntmps99
    go_wp2
    go_ret
    exact ⟨by first | rfl | (simp; done) | (simp [*]; done),by repeat (first | exact aV.refl _ | apply aV.step)⟩
   ·rw [if_neg c4] at H
    have wU : (a0 == 19) = false:=beq_eq_false_iff_ne.mpr c4
    have BK : (a0 != 19) = true:=bne_iff_ne.mpr c4
    by_cases c5 : a0 = 20
    ·rw [if_pos c5] at H
     have rZ : (a0 == 20) = true:=beq_iff_eq.mpr c5
     have OD : (a0 != 20) = false:=bne_eq_false_iff_eq.mpr c5
     clear c5
     obtain rfl:=Option.some.inj H
     go_enter Tryz.func99,Tryz.ntmps99
     go_wp2
     go_ret
     exact ⟨by first | rfl | (simp; done) | (simp [*]; done),by repeat (first | exact aV.refl _ | apply aV.step)⟩
    ·rw [if_neg c5] at H
     have rZ : (a0 == 20) = false:=beq_eq_false_iff_ne.mpr c5
     have OD : (a0 != 20) = true:=bne_iff_ne.mpr c5
     by_cases c6 : a0 = 22
     ·rw [if_pos c6] at H
      have GY : (a0 == 22) = true:=beq_iff_eq.mpr c6
      have QE : (a0 != 22) = false:=bne_eq_false_iff_eq.mpr c6
      clear c6
      obtain rfl:=Option.some.inj H
      go_enter Tryz.func99,Tryz.ntmps99
      go_wp2
      go_ret
      exact ⟨by first | rfl | (simp; done) | (simp [*]; done),by repeat (first | exact aV.refl _ | apply aV.step)⟩
     ·rw [if_neg c6] at H
      have GY : (a0 == 22) = false:=beq_eq_false_iff_ne.mpr c6
      have QE : (a0 != 22) = true:=bne_iff_ne.mpr c6
      by_cases c7 : a0 = 34
      ·rw [if_pos c7] at H
       have Bg : (a0 == 34) = true:=beq_iff_eq.mpr c7
       have IL : (a0 != 34) = false:=bne_eq_false_iff_eq.mpr c7
       clear c7
       obtain rfl:=Option.some.inj H
       go_enter Tryz.func99,Tryz.ntmps99
       go_wp2
       go_ret
       exact ⟨by first | rfl | (simp; done) | (simp [*]; done),by repeat (first | exact aV.refl _ | apply aV.step)⟩
      ·rw [if_neg c7] at H
       have Bg : (a0 == 34) = false:=beq_eq_false_iff_ne.mpr c7
       have IL : (a0 != 34) = true:=bne_iff_ne.mpr c7
       obtain rfl:=Option.some.inj H
       go_enter Tryz.func99,Tryz.ntmps99
       go_wp2
       go_ret
       exact ⟨by first | rfl | (simp; done) | (simp [*]; done),by repeat (first | exact aV.refl _ | apply aV.step)⟩
end Go.Proofs.YtdbpglhdicmhhaaGreatDoor.GA
end

section
namespace Go.Proofs.YtdbpglhdicmhhaaGreatDoor.qp
open Go.RowKit Go.Shelf Go.Proofs.YtdbpglhdicmhhaaGreatDoorW.aI Go.Proofs.YtdbpglhdicmhhaaGreatDoorW.aX Go.Proofs.YtdbpglhdicmhhaaGreatDoorW.aZ iM
open Go.Proofs.YtdbpglhdicmhhaaGreatDoor.GA
def ads : Code → Code
 | .seq _ c => c
 | c => c
def JH (w : ByteArray) : Int × Int:=(sF.f w).getD (0,60)
def bn (op : Int) : Int:=((eF.f op).getD (0,0)).1
def bW (sh : Int) : Int × Bool:=(dF.f sh).getD (0,false)
def wY (op : Int) : Bool:=(eU.f op).getD false
def rM (i : List Int) : Int:=((iH.f (i.getD 0 0) (i.getD 1 0) (i.getD 2 0) (i.getD 3 0) (i.getD 4 0)).getD (0,0)).1
theorem Nv (w : ByteArray) : sF.f w = some ((JH w).1,(JH w).2):=by
 unfold JH sF.f
 split <;> rfl
theorem Ko (op : Int) : ∃ r,fO.f op = some r:=by
 unfold fO.f
 split <;> exact ⟨_,rfl⟩
theorem qE (op : Int) : ∃ e,eF.f op = some (bn op,e):=by
 obtain ⟨r,hr⟩:=Ko op
 unfold bn eF.f
 rw [hr]
 exact ⟨_,rfl⟩
theorem jF (sh : Int) : dF.f sh = some ((bW sh).1,(bW sh).2):=by
 unfold bW dF.f
 repeat' split
 all_goals rfl
theorem qy (op : Int) : eU.f op = some (wY op):=by
 unfold wY eU.f
 repeat' split
 all_goals rfl
theorem BQ (a b c d e : Int) : ∃ r,iH.f a b c d e = some (rM [a,b,c,d,e],r):=by
 obtain ⟨x,hx⟩:=Ko a
 unfold rM
 show ∃ r,iH.f a b c d e = some (((iH.f a b c d e).getD (0,0)).1,r)
 have : ∃ y,iH.f a b c d e = some y:=by
  unfold iH.f
  rw [hx]
  simp only [Option.bind_some]
  by_cases h : x.2.2.2.2.2 = 0
  ·rw [if_pos h]
   unfold jg.f
   simp only [Option.bind_some]
   split <;> exact ⟨_,rfl⟩
  ·rw [if_neg h]; exact ⟨_,rfl⟩
 obtain ⟨y,hy⟩:=this
 rw [hy]
 exact ⟨y.2,rfl⟩
theorem JK (sh : Int) : ∃ n : Nat,(bW sh).1 = n ∧ n ≤ 3:=by
 unfold bW dF.f
 repeat' split
 ·exact ⟨1,rfl,by decide⟩
 ·exact ⟨2,rfl,by decide⟩
 ·exact ⟨3,rfl,by decide⟩
 ·exact ⟨0,rfl,by decide⟩
 ·exact ⟨1,rfl,by decide⟩
 ·exact ⟨1,rfl,by decide⟩
 ·exact ⟨0,rfl,by decide⟩
def St.fin (s : St) (at_ : Nat) (e : Int) (i : List Int) : St × Int :=
 if e ≠ 0 then (s,e) else if s.idle then (s,74) else ({ s with ins:=s.ins.set at_ i,code:=s.code.set at_ (rM i) },0)
theorem YT {s : St} {at_ : Nat} {e : Int} {i : List Int} (h : e ≠ 0) : s.fin at_ e i = (s,e):=if_pos h
theorem V7 {s : St} {at_ : Nat} {i : List Int} (h : s.idle = true) : s.fin at_ 0 i = (s,74):=by unfold St.fin; rw [if_neg (by simp),if_pos h]
theorem ab7 {s : St} {at_ : Nat} {i : List Int} (h : s.idle = false) : s.fin at_ 0 i = ({ s with ins:=s.ins.set at_ i,code:=s.code.set at_ (rM i) },0):=by unfold St.fin; rw [if_neg (by simp),if_neg (by rw [h]; simp)]
def outOf (sh n : Int) : Bool:=if sh = 6 then (decide (n < -32768) || decide (n > 32767)) else (decide (n < 0) || decide (n > 65535))
def St.jC (s : St) (at_ : Nat) (op e : Int) (abc : List Int) (rest : List ByteArray) : St × Int :=
 if (bW (bn op)).2 = false then s.fin at_ e (op :: abc ++ [0]) else
 let u:=rest.getD (bW (bn op)).1.toNat ByteArray.empty
 let nv:=Q.xP u.data.toList
 if (!nv.2 && (wY op && Q.nameB u.data.toList)) = true then St.fin { s with uses:=s.uses ++ [([(at_ : Int),(s.funcs.length : Int),s.now,op],u)] } at_ e (op :: abc ++ [0])
 else if nv.2 = false then (s,70)
 else s.fin at_ (if outOf (bn op) nv.1 then 73 else e) (op :: abc ++ [nv.1])
def xH (l : List Int) : List Int:=[l.getD 0 0,l.getD 1 0,l.getD 2 0]
def St.regs (s : St) (at_ : Nat) (op : Int) (rest : List ByteArray) : St × Int :=
 if (rest.length : Int) ≠ (bW (bn op)).1 + (if (bW (bn op)).2 then 1 else 0) then (s,70) else
 let q:=Q.fD [] 0 (bl (rest.take (bW (bn op)).1.toNat))
 if q.2 = 70 then (s,70) else s.jC at_ op q.2 (xH q.1) rest
def Az (fs : List (List Int)) (e : Int) : List (List Int):=fs.set (fs.length - 1) [(fs.getD (fs.length - 1) []).getD 0 0,e]
def St.room (s : St) (op : Int) : St:=if s.idle then s else { s with opn:=[],ins:=s.ins ++ [[op,0,0,0,0]],code:=s.code ++ [0],funcs:=Az s.funcs (s.ins.length + 1 : Nat) }
def St.instr (s : St) (ws : List ByteArray) : St × Int:=match ws with
 | [] => (s,70)
 | w :: rest => if (JH w).2 ≠ 0 then (s,70) else (s.room (JH w).1).regs s.ins.length (JH w).1 rest
theorem kK {P : Program} {ops : Array Oper} {md : Region.Mode} {o : Oper} {a : Act} {Q : Exit → Act → World → Prop} {w : World} {K : List (Addr × Value)} {fuel : Nat} {listed : Array Bool} {ds : List Nat}
  (i : Nat) (N : Tmp) {f : FuncId} {fn : Func} (hfn : P.funcs[f]? = some fn) (args : Array Value) {az : Array Operand} {ts : Array TypeId} {rs : List Nat}
  (h : Calls P f args w fun e w' => ∃ u,e = .returned u ∧ Know K w' ∧ bJ P md ops Q (Know K) ds fuel (listed.setIfInBounds i true) (a.put (some N) u) w')
  (hrest : aK P md ops Q (Know K) ds fuel listed a w rs)
  (hoi : ops[i]? = some o:=by rfl) (hN : o.dst = some N:=by rfl) (hw : Region.wanted o (yielded ops a.tmps) = true:=by rfl) (hd : i ∉ ds:=by decide)
  (hop : o.op = .call { callee := .value (.func f), args := az, argTypes := ts } := by rfl) (hname : (fn.name == "runtime.NumGoroutine") = false := by kernel_rfl) (hb : fn.body.isSome = true := by rfl)
  (hargs : az.map a.eval = args:=by first | rfl | (simp only [List.map_toArray,List.map_cons,List.map_nil]; done) | (simp only [List.map_toArray,List.map_cons,List.map_nil]; rfl) | simp) : aK P md ops Q (Know K) ds fuel listed a w (i :: rs):=by
 refine aK.cons hoi hd (fun K' hK => ?_) hrest
 rw [if_pos hw]
 have hg:=goes_ (K:=K') (Q:=Q) hfn hname hb args hw hN hop hargs (h.mono (by
  rintro e w' ⟨u,rfl,hS,hh⟩
  exact ⟨u,rfl,hK.out _ _ hS (fun _ => hh)⟩))
 rw [if_pos hw] at hg
 exact hg
section
variable {P : Program} {ops : Array Oper} {md : Region.Mode} {o : Oper} {a : Act} {Q : Exit → Act → World → Prop} {e : List TypeId} {w0 w W : World} {l : List (Nat × Array Value × TypeId)} {rows : List Row} {fx : List (Nat × Obj)} {fuel : Nat} {listed : Array Bool} {ds : List Nat}
theorem _root_.Go.Proofs.YtdbpglhdicmhhaaGreatDoor.iM.bf.ND {sz : Nat} {te : TypeId} {g n c : Nat} {xs : List (List Value)} (M : bf e w0 W l fx rows) (q : Nat) (hq : rows[q]? = some ⟨Kd.raw sz,te,.slice (some ⟨g,0,none⟩) n c,xs⟩) {i : Nat} {x0 : List Value} (hx0 : xs[i]? = some x0) (hi : i < n) : x0.length = sz:=by
 obtain ⟨c0,hcl,hM,hcc,_⟩:=Kd.FI (M.mem.owns q _ hq) [] (i : Int) (by omega) (by exact_mod_cast hi)
 rw [Int.toNat_natCast] at hM hcc
 have Nh : xs.getD i [] = x0:=by rw [List.getD_eq_getElem?_getD,hx0]; rfl
 obtain ⟨e1,e2,e3⟩:=hM
 rw [Nh] at e1
 subst e1
 exact e2
theorem kSi {S : World → Prop} {ik : IntKind} {te : TypeId} {g n c : Nat} {xs : List Int} (M : ah (bf e w0 w l fx (⟨Kd.int ik,te,.slice (some ⟨g,0,none⟩) n c,xs⟩ :: rows))) (i : Nat) (t : TypeId) (p : Operand) (ix : Nat) (x : Int) {rs : List Nat} (hi : ix < n)
  (h : ∀ w',ah (bf e w0 w' l fx (⟨Kd.int ik,te,.slice (some ⟨g,0,none⟩) n c,xs.set ix x⟩ :: rows)) → bJ P md ops Q S ds fuel (listed.setIfInBounds i true) a w')
  (hrest : aK P md ops Q S ds fuel listed a w rs)
  {y : Operand} (hoi : ops[i]? = some o:=by rfl) (hn : o.dst = none:=by rfl) (hw : Region.wanted o (yielded ops a.tmps) = true:=by rfl) (hd : i ∈ ds:=by decide) (ho : o.op = .store t p y:=by rfl)
  (hx : a.eval p = .pointer (some ⟨g,ix,none⟩):=by rfl) (hv : a.eval y = .int ik x:=by rfl) (hs : (P.info? t).map (·.size) = some 1:=by kernel_rfl) : aK P md ops Q S ds fuel listed a w (i :: rs):=by
 have M0:=M.out.mem
 have hR:=M0.owns 0 _ rfl
 obtain ⟨c0,hcl,hM,hcc,_⟩:=Kd.FI hR (0 : Int) (ix : Int) (by omega) (by exact_mod_cast hi)
 rw [Int.toNat_natCast] at hM hcc
 have e1 : c0 = [Value.int ik (xs.getD ix 0)]:=hM
 subst e1
 have hseg:=Kd.VH hR (ix : Int) (by omega) (by exact_mod_cast hi) (seg:=[Value.int ik x]) (j:=0) hcl (by rw [Int.toNat_natCast]; exact hcc) (Nat.le_refl 1) (x':=x) (Df:=fun _ => False)
  (show [Value.int ik (xs.getD ix 0)].take 0 ++ [Value.int ik x] ++ [Value.int ik (xs.getD ix 0)].drop (0 + 1) = [Value.int ik x] from rfl) (fun _ hk => hk.elim)
 obtain ⟨hR1,hg⟩:=hseg
 rw [Int.toNat_natCast] at hR1 hg
 have hof : ix * (Kd.int ik).sz + 0 = ix:=by show ix * 1 + 0 = ix; omega
 rw [hof] at hR1 hg
 have hbg : w0.heap.size ≤ g:=Kd.KR hR g rfl
 obtain ⟨inner,hown⟩:=Kd.J4 hR
 have hrun : (Instr.storeAt t (.pointer (some ⟨g,ix,none⟩)) (.int ik x)).run P w = .ok () (w.setCells g ix [.int ik x]):=by
  have hnx : n = xs.length:=(Kd.sV hR).1
  rcases hown.2 with ⟨hv',_⟩ | ⟨g',cap',cur,hv',hb,hh,hnc,hcm,hcs,_⟩
  ·cases hv'
  injection hv' with ha _ hc
  injection ha with ha
  injection ha with hg'
  subst hg'; subst hc
  refine Aw t (.int ik x) [.int ik x] hh rfl hs ?_ (by intro q hq; rw [List.mem_singleton] at hq; subst hq; rfl)
  have h4 : c * 1 = cur.size:=hcs.symm
  show ix + 1 ≤ cur.size
  omega
 have hB : Below w0.heap.size w0 (w.setCells g ix [.int ik x]):=uT g hbg _ _ w M0.below
 refine aK.xB hoi hd (fun K' hK' => ?_) hrest
 rw [if_pos hw]
 unfold Oper.wp execOp
 simp only [ho,hx,hv,Sem.run_bind,Sem.run_pure,Result.andThen_ok,hrun]
 show K' (a.put o.dst undef) _
 rw [hn]
 exact hK'.out _ _ (h _ ⟨M.out.other (M0.written hB hg hR1 (.inl rfl)) (fun q y hy => hg.block y.1 (jk (M.out.fix q y hy).1) (M.out.F5 0 q rfl hy))⟩)
end
end Go.Proofs.YtdbpglhdicmhhaaGreatDoor.qp
end

section
namespace Go.Proofs.YtdbpglhdicmhhaaGreatDoor.qp
open Go.RowKit Go.Shelf Go.Proofs.YtdbpglhdicmhhaaGreatDoorW.aI Go.Proofs.YtdbpglhdicmhhaaGreatDoorW.aX Go.Proofs.YtdbpglhdicmhhaaGreatDoorW.aZ iM
open Go.Proofs.YtdbpglhdicmhhaaGreatDoor.GA
noncomputable def adx : Code:=(List.range 14).foldl (fun c _ => ads c) (Tryz.f63.body.getD .skip)
theorem BU {es : List TypeId} {w0 W : World} {l : List (Nat × Array Value × TypeId)} {fx : List (Nat × Obj)} {vc vf vt vi vo vu : Value} {gf gt gl : Nat} {of ot ol : Obj} {vs : List Value} {s : St} {n : Nat} {r : Row} {x0 : List Value} {op a b c jC : Int} (hx : x0.length = 5)
  (M : bf es w0 W l fx (⟨Kd.raw 5,70,vi,(s.ins.map ints).set n (x0.take 0 ++ [Value.int .i64 op,.int .i64 a,.int .i64 b,.int .i64 c,.int .i64 jC] ++ x0.drop (0 + [Value.int .i64 op,.int .i64 a,.int .i64 b,.int .i64 c,.int .i64 jC].length))⟩ :: ((r :: dO ⟨vc,vf,vt,vi,vo,vu,gf,gt,gl,of,ot,ol,vs⟩ s).eraseIdx 4))) :
  bf es w0 W l fx (r :: dO ⟨vc,vf,vt,vi,vo,vu,gf,gt,gl,of,ot,ol,vs⟩ { s with ins:=s.ins.set n [op,a,b,c,jC] }):=by
 have h:=bf.back 4 (by show 4 < (r :: dO _ _).length; simp [dO]) M
 have e1 : ({ s with ins:=s.ins.set n [op,a,b,c,jC] } : St).ins.map ints = (s.ins.map ints).set n (x0.take 0 ++ [Value.int .i64 op,.int .i64 a,.int .i64 b,.int .i64 c,.int .i64 jC] ++ x0.drop (0 + [Value.int .i64 op,.int .i64 a,.int .i64 b,.int .i64 c,.int .i64 jC].length)):=by
  rw [List.drop_eq_nil_of_le (by rw [hx]; exact Nat.le_refl 5)]
  show (s.ins.set n _).map ints = _
  rw [List.map_set]; rfl
 have key : ∀ A,A = (s.ins.map ints).set n (x0.take 0 ++ [Value.int .i64 op,.int .i64 a,.int .i64 b,.int .i64 c,.int .i64 jC] ++ x0.drop (0 + [Value.int .i64 op,.int .i64 a,.int .i64 b,.int .i64 c,.int .i64 jC].length)) → bf es w0 W l fx (r :: ⟨Kd.int .u32,39,vc,s.code⟩ :: ⟨Kd.raw 2,41,vf,s.funcs.map ints⟩ :: ⟨Kd.raw 2,44,vt,fF vs s.tabs⟩ :: ⟨Kd.raw 5,70,vi,A⟩ :: ⟨Kd.int .i64,3,vo,s.opn⟩ :: ⟨Kd.raw 5,111,vu,s.uses.map zH⟩ :: iE vs s.tabs):=by
  intro A hA
  rw [hA]; exact h
 exact key _ e1
theorem vO.fin {k : Nat} {s : St} (h : vO k s) (n : Nat) (i : List Int) (x : Int) : vO k { s with ins:=s.ins.set n i,code:=s.code.set n x } :=
 ⟨by show (s.code.set _ _).length ≤ _; rw [List.length_set]; exact h.code,h.funcs,h.tabs,by show (s.ins.set _ _).length ≤ _; rw [List.length_set]; exact h.ins,h.opn,h.uses,h.cs⟩
section
variable {k : Nat} {w0 W : World} {gr g14 : Nat} {l : List (Nat × Array Value × TypeId)} {h : Hd} {s : St} {op a b c jC e : Int} {n : Nat}
theorem zW {u1 u2 u3 u5 u8 u9 u10 u11 u12 u13 u15 u16 yh yj yu u20 u21 u22 u23 u24 u25 u26 u27 u28 u29 u30 u31 u32 u33 u34 u35 u36 u37 u38 yw u40 yx u42 yC u44 u45 u46 yD u48 u49 yE u51 yF u53 yG u55 yH yI u58 u59 u60 u61 yJ u63 u64 yK u66 yL u68 u69 u70 yM u72 u73 yN u75 yP yQ yS yT yU yV yX yY yZ zf zh zi zk zn zo zq zu u93 zA zB zC zD zF zG jM jO jP jQ jR u105 jS jT jU jV jW jX jY jZ ku kD kF kG kH u119 kJ kQ kS kT u124 kU kV u127 kX kZ lg u131 lq lu lC lD lF lG u138 u139 lH lI lJ lK lM lN lQ lS lT lU lV lW u152 lX u154 lY lZ l7 l9 mg mD mF u162 mG u164 mJ mM mO mP mQ mV mW mX mY mZ ng ny nC nD nG nH nI nJ nK nM nN nO nP nR nS nT nU nV u193 u194 nX u196 nY u198 nZ oh u201 oq ou oz oC u206 oD u208 oG u210 oH oI oJ oK oL oM oN oO oP oQ oU oV oW oZ o7 o8 o9 pq pz pF pG pI pJ u234 pK u236 pO pR pU pV pW pX : Value} (M0 : bf vk w0 W ((gr,gZ h s,55) :: l) (Ea h) (⟨Kd.raw 5,70,.slice (some ⟨g14,0,none⟩) 1 1,[[Value.int .i64 op,.int .i64 a,.int .i64 b,.int .i64 c,.int .i64 jC]]⟩ :: dO h s)) (hf : vO k s) (hsy : Says k h s) (hln : h.vs.length = s.tabs.length) (hk : k ≤ 262144) (hn : s.idle = false → n < s.ins.length ∧ n < s.code.length) :
  Code.wp Tryz.prog adx (bodyPost Tryz.prog Tryz.f63 fun z w' => z = .returned (.int .i64 (s.fin n e [op,a,b,c,jC]).2) ∧ ∃ h',dX k w0 w' gr l h' (s.fin n e [op,a,b,c,jC]).1) ⟨#[(.pointer (some ⟨gr,0,none⟩)),u1,u2,u3,(.int .i64 0),u5,(.int .i64 e),(.int .i64 (n : Int)),u8,u9,u10,u11,u12,u13,(.pointer (some ⟨g14,0,none⟩)),u15,u16,yh,yj,yu,u20,u21,u22,u23,u24,u25,u26,u27,u28,u29,u30,u31,u32,u33,u34,u35,u36,u37,u38,yw,u40,yx,u42,yC,u44,u45,u46,yD,u48,u49,yE,u51,yF,u53,yG,u55,yH,yI,u58,u59,u60,u61,yJ,u63,u64,yK,u66,yL,u68,u69,u70,yM,u72,u73,yN,u75,yP,yQ,yS,yT,yU,yV,yX,yY,yZ,zf,zh,zi,zk,zn,zo,zq,zu,u93,zA,zB,zC,zD,zF,zG,jM,jO,jP,jQ,jR,u105,jS,jT,jU,jV,jW,jX,jY,jZ,ku,kD,kF,kG,kH,u119,kJ,kQ,kS,kT,u124,kU,kV,u127,kX,kZ,lg,u131,lq,lu,lC,lD,lF,lG,u138,u139,lH,lI,lJ,lK,lM,lN,lQ,lS,lT,lU,lV,lW,u152,lX,u154,lY,lZ,l7,l9,mg,mD,mF,u162,mG,u164,mJ,mM,mO,mP,mQ,mV,mW,mX,mY,mZ,ng,ny,nC,nD,nG,nH,nI,nJ,nK,nM,nN,nO,nP,nR,nS,nT,nU,nV,u193,u194,nX,u196,nY,u198,nZ,oh,u201,oq,ou,oz,oC,u206,oD,u208,oG,u210,oH,oI,oJ,oK,oL,oM,oN,oO,oP,oQ,oU,oV,oW,oZ,o7,o8,o9,pq,pz,pF,pG,pI,pJ,u234,pK,u236,pO,pR,pU,pV,pW,pX],[]⟩ W:=by
 have HF:=Lib.hid hf
 have HS:=Lib.hid hsy
 have iK:=Lib.hid hln
 have HN:=Lib.hid hn
 have HKK:=Lib.hid hk
 obtain ⟨vc,vf,vt,vi,vo,vu,gf,gt,gl,of,ot,ol,vs⟩:=h
 have M:=ah.mk M0
 clear hf hsy hln hn hk M0
 conv => arg 2; whnf
 by_cases he : e = 0
 ·subst he
  have x9 : W.cell? ⟨gr,9,none⟩ = some (.bool s.idle):=bY M.out 9 rfl
  cases hid : s.idle with
  | true =>
   have HT:=Lib.hid (V7 (s:=s) (at_:=n) (i:=[op,a,b,c,jC]) hid)
   rw [hid] at x9
   clear hid
   go_wp2
   go_returns
   rw [HT.out]
   exact ⟨rfl,⟨vc,vf,vt,vi,vo,vu,gf,gt,gl,of,ot,ol,vs⟩,M.out.fQ Mem.tail,HF.out,HS.out,iK.out⟩
  | false =>
   have HT:=Lib.hid (ab7 (s:=s) (at_:=n) (i:=[op,a,b,c,jC]) hid)
   obtain ⟨ai5,ai4⟩:=HN.out hid
   rw [hid] at x9
   clear hid
   obtain ⟨gi,ni,ci,rfl,hei,hci⟩ : ∃ g m c,vi = .slice (some ⟨g,0,none⟩) m c ∧ m = s.ins.length ∧ m ≤ c:=by
    rcases bf.slice M.out 4 rfl with ⟨_,_,h2⟩ | ⟨g,c,h1,h2⟩
    ·have h3:=congrArg List.length h2; rw [List.length_map,List.length_nil] at h3; omega
    ·rw [List.length_map] at h1 h2; exact ⟨g,_,c,h1,rfl,h2⟩
   obtain ⟨gc,nc,cc,rfl,hec,hcc⟩ : ∃ g m c,vc = .slice (some ⟨g,0,none⟩) m c ∧ m = s.code.length ∧ m ≤ c:=by
    rcases bf.slice M.out 1 rfl with ⟨_,_,h2⟩ | ⟨g,c,h1,h2⟩
    ·have h3 : s.code.length = 0:=congrArg List.length h2; omega
    ·exact ⟨g,_,c,h1,rfl,h2⟩
   have hni : n < ni:=by omega
   have hnc : n < nc:=by omega
   have amI : (n : Int) < (ni : Int):=by omega
   have amH : (n : Int) < (nc : Int):=by omega
   have HEI:=Lib.hid hei
   have HEC:=Lib.hid hec
   clear ai5 ai4 hei hec
   obtain ⟨y0,hy0⟩ : ∃ y,s.ins[n]? = some y:=⟨_,List.getElem?_eq_getElem (by rw [← HEI.out]; exact hni)⟩
   have hx0 : (s.ins.map ints)[n]? = some (ints y0):=by rw [List.getElem?_map,hy0]; rfl
   generalize ints y0 = x0 at hx0
   have HX5:=Lib.hid (bf.ND M.out 4 rfl hx0 hni)
   clear hy0
   obtain ⟨re,hre⟩:=BQ op a b c jC
   have Vt:=Lib.hid (fun W => iH.calls op a b c jC _ _ W hre)
   clear hre
   go_wp2_with fail
   refine gQ [7] [(⟨gr,3,none⟩,.slice (some ⟨gi,0,none⟩) ni ci),(⟨g14,0,none⟩,.int .i64 op),(⟨g14,1,none⟩,.int .i64 a),(⟨g14,2,none⟩,.int .i64 b),(⟨g14,3,none⟩,.int .i64 c),(⟨g14,4,none⟩,.int .i64 jC)] M ?_ (fun w2 MD fV => ?_)
   ·intro q hq
    simp only [List.mem_cons,List.not_mem_nil,or_false] at hq
    rcases hq with rfl | rfl | rfl | rfl | rfl | rfl
    ·exact bY M.out 3 rfl
    ·exact M.out.elem 0 rfl (i:=0) rfl (by decide) 0 rfl
    ·exact M.out.elem 0 rfl (i:=0) rfl (by decide) 1 rfl
    ·exact M.out.elem 0 rfl (i:=0) rfl (by decide) 2 rfl
    ·exact M.out.elem 0 rfl (i:=0) rfl (by decide) 3 rfl
    ·exact M.out.elem 0 rfl (i:=0) rfl (by decide) 4 rfl
   clear M x9
   refine kP 0 224 (.pointer (some ⟨gr,0,none⟩)) ?_
   simp only [Act.put,bF,bH,bG]
   refine kP 1 225 (.pointer (some ⟨gr,0,none⟩)) ?_
   simp only [Act.put,bF,bH,bG]
   refine kP 2 226 (.pointer (some ⟨gr,3,none⟩)) ?_
   simp only [Act.put,bF,bH,bG]
   refine kE fV 3 227 0 ?_
   simp only [Act.put,bF,bH,bG]
   refine kP 4 228 (.int .i64 (n : Int)) ?_
   simp only [Act.put,bF,bH,bG]
   refine kM fV 5 229 g14 0 [Value.int .i64 op,.int .i64 a,.int .i64 b,.int .i64 c,.int .i64 jC] Tryz.underlying70 (fun j u hj => by rcases j with _ | _ | _ | _ | _ | j <;> simp at hj <;> subst hj <;> simp) ?_
   simp only [Act.put,bF,bH,bG]
   refine kP 6 230 (.pointer (some ⟨gi,n * 5,none⟩)) ?_
   simp only [Act.put,bF,bH,bG]
   have MF:=ah.mk (bf.front MD.out 4 rfl)
   clear MD
   refine kR [7] ?_
   refine Xo MF 7 70 (.tmp 230) n 0 (.agg [Value.int .i64 op,.int .i64 a,.int .i64 b,.int .i64 c,.int .i64 jC].toArray) [Value.int .i64 op,.int .i64 a,.int .i64 b,.int .i64 c,.int .i64 jC] x0 hni hx0 ?_ rfl (by intro q hq; simp at hq; rcases hq with rfl | rfl | rfl | rfl | rfl <;> rfl) (Nat.le_refl 5) aK.nil rfl
   clear MF fV
   intro w3 MG
   refine iG ?_
   have MI:=ah.mk (BU HX5.out MG.out)
   clear MG
   go_wp2_with fail
   refine gQ [12] [(⟨gr,0,none⟩,.slice (some ⟨gc,0,none⟩) nc cc),(⟨g14,0,none⟩,.int .i64 op),(⟨g14,1,none⟩,.int .i64 a),(⟨g14,2,none⟩,.int .i64 b),(⟨g14,3,none⟩,.int .i64 c),(⟨g14,4,none⟩,.int .i64 jC)] MI ?_ (fun w4 MD fV => ?_)
   ·intro q hq
    simp only [List.mem_cons,List.not_mem_nil,or_false] at hq
    rcases hq with rfl | rfl | rfl | rfl | rfl | rfl
    ·exact bY MI.out 0 rfl
    ·exact MI.out.elem 0 rfl (i:=0) rfl (by decide) 0 rfl
    ·exact MI.out.elem 0 rfl (i:=0) rfl (by decide) 1 rfl
    ·exact MI.out.elem 0 rfl (i:=0) rfl (by decide) 2 rfl
    ·exact MI.out.elem 0 rfl (i:=0) rfl (by decide) 3 rfl
    ·exact MI.out.elem 0 rfl (i:=0) rfl (by decide) 4 rfl
   clear MI
   refine kP 0 232 (.pointer (some ⟨gr,0,none⟩)) ?_
   simp only [Act.put,bF,bH,bG]
   refine kP 1 233 (.pointer (some ⟨gr,0,none⟩)) ?_
   simp only [Act.put,bF,bH,bG]
   refine kP 2 234 (.pointer (some ⟨gr,0,none⟩)) ?_
   simp only [Act.put,bF,bH,bG]
   refine kP 3 235 (.pointer (some ⟨gr,0,none⟩)) ?_
   simp only [Act.put,bF,bH,bG]
   refine kE fV 4 236 0 ?_
   simp only [Act.put,bF,bH,bG]
   refine kP 5 237 (.int .i64 (n : Int)) ?_
   simp only [Act.put,bF,bH,bG]
   refine kM fV 6 238 g14 0 [Value.int .i64 op,.int .i64 a,.int .i64 b,.int .i64 c,.int .i64 jC] Tryz.underlying70 (fun j u hj => by rcases j with _ | _ | _ | _ | _ | j <;> simp at hj <;> subst hj <;> simp) ?_
   simp only [Act.put,bF,bH,bG]
   refine kR [7] ?_
   refine kK 7 239 Tryz.func64 #[.agg [Value.int .i64 op,.int .i64 a,.int .i64 b,.int .i64 c,.int .i64 jC].toArray] ((Vt.out _).mono ?_) aK.nil
   rintro e' w5 ⟨rfl,hb5⟩
   refine ⟨_,rfl,fV.out.below hb5,?_⟩
   have ME:=ah.mk (MD.out.call hb5)
   have D9:=ah.mk (fV.out.below hb5)
   clear MD fV hb5
   simp only [Act.put,bF,bH,bG]
   refine kP 8 231 (.tuple #[.int .u32 (rM [op,a,b,c,jC]),.int .i64 re]) ?_
   simp only [Act.put,bF,bH,bG]
   refine kP 9 240 (.int .u32 (rM [op,a,b,c,jC])) ?_
   simp only [Act.put,bF,bH,bG]
   refine kP 10 241 (.int .i64 re) ?_
   simp only [Act.put,bF,bH,bG]
   refine kP 11 242 (.pointer (some ⟨gc,n,none⟩)) ?_
   simp only [Act.put,bF,bH,bG]
   have MF:=ah.mk (bf.front ME.out 1 rfl)
   clear ME
   refine kR [12] ?_
   refine kSi MF 12 39 (.tmp 242) n (rM [op,a,b,c,jC]) hnc ?_ aK.nil
   clear MF D9
   intro w6 MG
   refine iG ?_
   have MJ:=ah.mk ((bf.back 1 (by show 1 < (_ :: dO _ _).length; simp [dO]) MG.out).fQ Mem.tail)
   clear MG
   go_wp2
   go_returns
   rw [HT.out]
   exact ⟨rfl,⟨.slice (some ⟨gc,0,none⟩) nc cc,vf,vt,.slice (some ⟨gi,0,none⟩) ni ci,vo,vu,gf,gt,gl,of,ot,ol,vs⟩,MJ.out,vO.fin HF.out _ _ _,⟨HS.out.f,HS.out.t,HS.out.l⟩,iK.out⟩
 ·have HT:=Lib.hid (YT (s:=s) (at_:=n) (i:=[op,a,b,c,jC]) he)
  have b2 : (e != 0) = true:=bne_iff_ne.mpr he
  clear he
  go_wp2
  go_returns
  rw [HT.out]
  exact ⟨rfl,⟨vc,vf,vt,vi,vo,vu,gf,gt,gl,of,ot,ol,vs⟩,M.out.fQ Mem.tail,HF.out,HS.out,iK.out⟩
end
end Go.Proofs.YtdbpglhdicmhhaaGreatDoor.qp
end
