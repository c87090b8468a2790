import Derived.Test.YtdbpglhdicmhhaaGreatDoorMBk4
import Derived.Test.YtdbpglhdicmhhaaGreatDoorMBk27
import Derived.Test.YtdbpglhdicmhhaaGreatDoorMBk15
import Derived.Test.YtdbpglhdicmhhaaGreatDoorMBk17
import Derived.Test.YtdbpglhdicmhhaaGreatDoorMBk14
set_option linter.unusedVariables false
set_option linter.unusedSimpArgs false
section
namespace Go.Proofs.YtdbpglhdicmhhaaGreatDoor.GA
open Go.RowKit Go.Proofs.YtdbpglhdicmhhaaGreatDoorW.PrintWords Go.Proofs.YtdbpglhdicmhhaaGreatDoorW.PrintLast Go.Proofs.YtdbpglhdicmhhaaGreatDoorW.PrintMore
def listing_refers.f (a0 : Int) : Option (Bool):=if a0 = 17 then (some true) else (if a0 = 18 then (some true) else (if a0 = 19 then (some true) else (if a0 = 20 then (some true) else (if a0 = 22 then (some true) else (if a0 = 34 then (some true) else (some false))))))
set_option maxHeartbeats 8000000 in
set_option maxRecDepth 100000 in
theorem listing_refers.calls (a0 : Int) (r : Bool) (w : World) (h : listing_refers.f a0 = some r) :
  Calls Tryz.prog 99 #[.int .i64 a0] w fun e w' => e = .returned (.bool r) ∧ Drawn0 w w':=by
 have H : (if a0 = 17 then (some true) else (if a0 = 18 then (some true) else (if a0 = 19 then (some true) else (if a0 = 20 then (some true) else (if a0 = 22 then (some true) else (if a0 = 34 then (some true) else (some false))))))) = some r:=h
 clear h
 by_cases c2 : a0 = 17
 ·rw [if_pos c2] at H
  have c2b0 : (a0 == 17) = true:=beq_iff_eq.mpr c2
  have c2b1 : (a0 != 17) = false:=bne_eq_false_iff_eq.mpr c2
  clear c2
  obtain rfl:=Option.some.inj H
  go_enter Tryz.func99,Tryz.ntmps99
  go_wp2
  go_ret
  exact ⟨by first | rfl | (simp; done) | (simp [*]; done),by repeat (first | exact Drawn0.refl _ | apply Drawn0.step)⟩
 ·rw [if_neg c2] at H
  have c2b0 : (a0 == 17) = false:=beq_eq_false_iff_ne.mpr c2
  have c2b1 : (a0 != 17) = true:=bne_iff_ne.mpr c2
  by_cases c3 : a0 = 18
  ·rw [if_pos c3] at H
   have c3b0 : (a0 == 18) = true:=beq_iff_eq.mpr c3
   have c3b1 : (a0 != 18) = false:=bne_eq_false_iff_eq.mpr c3
   clear c3
   obtain rfl:=Option.some.inj H
   go_enter Tryz.func99,Tryz.ntmps99
   go_wp2
   go_ret
   exact ⟨by first | rfl | (simp; done) | (simp [*]; done),by repeat (first | exact Drawn0.refl _ | apply Drawn0.step)⟩
  ·rw [if_neg c3] at H
   have c3b0 : (a0 == 18) = false:=beq_eq_false_iff_ne.mpr c3
   have c3b1 : (a0 != 18) = true:=bne_iff_ne.mpr c3
   by_cases c4 : a0 = 19
   ·rw [if_pos c4] at H
    have c4b0 : (a0 == 19) = true:=beq_iff_eq.mpr c4
    have c4b1 : (a0 != 19) = false:=bne_eq_false_iff_eq.mpr c4
    clear c4
    obtain rfl:=Option.some.inj H
    go_enter Tryz.func99,Tryz.ntmps99
    go_wp2
    go_ret
    exact ⟨by first | rfl | (simp; done) | (simp [*]; done),by repeat (first | exact Drawn0.refl _ | apply Drawn0.step)⟩
   ·rw [if_neg c4] at H
    have c4b0 : (a0 == 19) = false:=beq_eq_false_iff_ne.mpr c4
    have c4b1 : (a0 != 19) = true:=bne_iff_ne.mpr c4
    by_cases c5 : a0 = 20
    ·rw [if_pos c5] at H
     have c5b0 : (a0 == 20) = true:=beq_iff_eq.mpr c5
     have c5b1 : (a0 != 20) = false:=bne_eq_false_iff_eq.mpr c5
     clear c5
     obtain rfl:=Option.some.inj H
     go_enter Tryz.func99,Tryz.ntmps99
     go_wp2
     go_ret
     exact ⟨by first | rfl | (simp; done) | (simp [*]; done),by repeat (first | exact Drawn0.refl _ | apply Drawn0.step)⟩
    ·rw [if_neg c5] at H
     have c5b0 : (a0 == 20) = false:=beq_eq_false_iff_ne.mpr c5
     have c5b1 : (a0 != 20) = true:=bne_iff_ne.mpr c5
     by_cases c6 : a0 = 22
     ·rw [if_pos c6] at H
      have c6b0 : (a0 == 22) = true:=beq_iff_eq.mpr c6
      have c6b1 : (a0 != 22) = false:=bne_eq_false_iff_eq.mpr c6
      clear c6
      obtain rfl:=Option.some.inj H
      go_enter Tryz.func99,Tryz.ntmps99
      go_wp2
      go_ret
      exact ⟨by first | rfl | (simp; done) | (simp [*]; done),by repeat (first | exact Drawn0.refl _ | apply Drawn0.step)⟩
     ·rw [if_neg c6] at H
      have c6b0 : (a0 == 22) = false:=beq_eq_false_iff_ne.mpr c6
      have c6b1 : (a0 != 22) = true:=bne_iff_ne.mpr c6
      by_cases c7 : a0 = 34
      ·rw [if_pos c7] at H
       have c7b0 : (a0 == 34) = true:=beq_iff_eq.mpr c7
       have c7b1 : (a0 != 34) = false:=bne_eq_false_iff_eq.mpr c7
       clear c7
       obtain rfl:=Option.some.inj H
       go_enter Tryz.func99,Tryz.ntmps99
       go_wp2
       go_ret
       exact ⟨by first | rfl | (simp; done) | (simp [*]; done),by repeat (first | exact Drawn0.refl _ | apply Drawn0.step)⟩
      ·rw [if_neg c7] at H
       have c7b0 : (a0 == 34) = false:=beq_eq_false_iff_ne.mpr c7
       have c7b1 : (a0 != 34) = true:=bne_iff_ne.mpr c7
       obtain rfl:=Option.some.inj H
       go_enter Tryz.func99,Tryz.ntmps99
       go_wp2
       go_ret
       exact ⟨by first | rfl | (simp; done) | (simp [*]; done),by repeat (first | exact Drawn0.refl _ | apply Drawn0.step)⟩
end Go.Proofs.YtdbpglhdicmhhaaGreatDoor.GA
end

section
namespace Go.Proofs.YtdbpglhdicmhhaaGreatDoor.Hof
open Go.RowKit Go.Shelf Go.Proofs.YtdbpglhdicmhhaaGreatDoorW.PrintWords Go.Proofs.YtdbpglhdicmhhaaGreatDoorW.PrintLast Go.Proofs.YtdbpglhdicmhhaaGreatDoorW.PrintMore Hctx
open Go.Proofs.YtdbpglhdicmhhaaGreatDoor.GA
def seqR : Code → Code
 | .seq _ c => c
 | c => c
def opV (w : ByteArray) : Int × Int:=(word_Find.f w).getD (0,60)
def shapeV (op : Int) : Int:=((word_Shape.f op).getD (0,0)).1
def fieldsV (sh : Int) : Int × Bool:=(listing_fields.f sh).getD (0,false)
def refersV (op : Int) : Bool:=(listing_refers.f op).getD false
def encV (i : List Int) : Int:=((word_Encode.f (i.getD 0 0) (i.getD 1 0) (i.getD 2 0) (i.getD 3 0) (i.getD 4 0)).getD (0,0)).1
theorem op_some (w : ByteArray) : word_Find.f w = some ((opV w).1,(opV w).2):=by
 unfold opV word_Find.f
 split <;> rfl
theorem find_some (op : Int) : ∃ r,word_find.f op = some r:=by
 unfold word_find.f
 split <;> exact ⟨_,rfl⟩
theorem shape_some (op : Int) : ∃ e,word_Shape.f op = some (shapeV op,e):=by
 obtain ⟨r,hr⟩:=find_some op
 unfold shapeV word_Shape.f
 rw [hr]
 exact ⟨_,rfl⟩
theorem fields_some (sh : Int) : listing_fields.f sh = some ((fieldsV sh).1,(fieldsV sh).2):=by
 unfold fieldsV listing_fields.f
 repeat' split
 all_goals rfl
theorem refers_some (op : Int) : listing_refers.f op = some (refersV op):=by
 unfold refersV listing_refers.f
 repeat' split
 all_goals rfl
theorem enc_some (a b c d e : Int) : ∃ r,word_Encode.f a b c d e = some (encV [a,b,c,d,e],r):=by
 obtain ⟨x,hx⟩:=find_some a
 unfold encV
 show ∃ r,word_Encode.f a b c d e = some (((word_Encode.f a b c d e).getD (0,0)).1,r)
 have : ∃ y,word_Encode.f a b c d e = some y:=by
  unfold word_Encode.f
  rw [hx]
  simp only [Option.bind_some]
  by_cases h : x.2.2.2.2.2 = 0
  ·rw [if_pos h]
   unfold word_fits.f
   simp only [Option.bind_some]
   split <;> exact ⟨_,rfl⟩
  ·rw [if_neg h]; exact ⟨_,rfl⟩
 obtain ⟨y,hy⟩:=this
 rw [hy]
 exact ⟨y.2,rfl⟩
theorem fieldsV_bound (sh : Int) : ∃ n : Nat,(fieldsV sh).1 = n ∧ n ≤ 3:=by
 unfold fieldsV listing_fields.f
 repeat' split
 ·exact ⟨1,rfl,by decide⟩
 ·exact ⟨2,rfl,by decide⟩
 ·exact ⟨3,rfl,by decide⟩
 ·exact ⟨0,rfl,by decide⟩
 ·exact ⟨1,rfl,by decide⟩
 ·exact ⟨1,rfl,by decide⟩
 ·exact ⟨0,rfl,by decide⟩
def St.fin (s : St) (at_ : Nat) (e : Int) (i : List Int) : St × Int :=
 if e ≠ 0 then (s,e) else if s.idle then (s,74) else ({ s with ins:=s.ins.set at_ i,code:=s.code.set at_ (encV i) },0)
theorem fin_bad {s : St} {at_ : Nat} {e : Int} {i : List Int} (h : e ≠ 0) : s.fin at_ e i = (s,e):=if_pos h
theorem fin_idle {s : St} {at_ : Nat} {i : List Int} (h : s.idle = true) : s.fin at_ 0 i = (s,74):=by unfold St.fin; rw [if_neg (by simp),if_pos h]
theorem fin_ok {s : St} {at_ : Nat} {i : List Int} (h : s.idle = false) : s.fin at_ 0 i = ({ s with ins:=s.ins.set at_ i,code:=s.code.set at_ (encV i) },0):=by unfold St.fin; rw [if_neg (by simp),if_neg (by rw [h]; simp)]
def outOf (sh n : Int) : Bool:=if sh = 6 then (decide (n < -32768) || decide (n > 32767)) else (decide (n < 0) || decide (n > 65535))
def St.imm (s : St) (at_ : Nat) (op e : Int) (abc : List Int) (rest : List ByteArray) : St × Int :=
 if (fieldsV (shapeV op)).2 = false then s.fin at_ e (op :: abc ++ [0]) else
 let u:=rest.getD (fieldsV (shapeV op)).1.toNat ByteArray.empty
 let nv:=Q.numV u.data.toList
 if (!nv.2 && (refersV op && Q.nameB u.data.toList)) = true then St.fin { s with uses:=s.uses ++ [([(at_ : Int),(s.funcs.length : Int),s.now,op],u)] } at_ e (op :: abc ++ [0])
 else if nv.2 = false then (s,70)
 else s.fin at_ (if outOf (shapeV op) nv.1 then 73 else e) (op :: abc ++ [nv.1])
def abcOf (l : List Int) : List Int:=[l.getD 0 0,l.getD 1 0,l.getD 2 0]
def St.regs (s : St) (at_ : Nat) (op : Int) (rest : List ByteArray) : St × Int :=
 if (rest.length : Int) ≠ (fieldsV (shapeV op)).1 + (if (fieldsV (shapeV op)).2 then 1 else 0) then (s,70) else
 let q:=Q.regsV [] 0 (bl (rest.take (fieldsV (shapeV op)).1.toNat))
 if q.2 = 70 then (s,70) else s.imm at_ op q.2 (abcOf q.1) rest
def setEnd (fs : List (List Int)) (e : Int) : List (List Int):=fs.set (fs.length - 1) [(fs.getD (fs.length - 1) []).getD 0 0,e]
def St.room (s : St) (op : Int) : St:=if s.idle then s else { s with opn:=[],ins:=s.ins ++ [[op,0,0,0,0]],code:=s.code ++ [0],funcs:=setEnd s.funcs (s.ins.length + 1 : Nat) }
def St.instr (s : St) (ws : List ByteArray) : St × Int:=match ws with
 | [] => (s,70)
 | w :: rest => if (opV w).2 ≠ 0 then (s,70) else (s.room (opV w).1).regs s.ins.length (opV w).1 rest
theorem kK {P : Program} {ops : Array Oper} {md : Region.Mode} {o : Oper} {a : Act} {Q : Exit → Act → World → Prop} {w : World} {K : List (Addr × Value)} {fuel : Nat} {listed : Array Bool} {ds : List Nat}
  (i : Nat) (N : Tmp) {f : FuncId} {fn : Func} (hfn : P.funcs[f]? = some fn) (args : Array Value) {az : Array Operand} {ts : Array TypeId} {rs : List Nat}
  (h : Calls P f args w fun e w' => ∃ u,e = .returned u ∧ Know K w' ∧ wpAnyLast P md ops Q (Know K) ds fuel (listed.setIfInBounds i true) (a.put (some N) u) w')
  (hrest : AllReadyL P md ops Q (Know K) ds fuel listed a w rs)
  (hoi : ops[i]? = some o:=by rfl) (hN : o.dst = some N:=by rfl) (hw : Region.wanted o (yielded ops a.tmps) = true:=by rfl) (hd : i ∉ ds:=by decide)
  (hop : o.op = .call { callee := .value (.func f), args := az, argTypes := ts } := by rfl) (hname : (fn.name == "runtime.NumGoroutine") = false := by kernel_rfl) (hb : fn.body.isSome = true := by rfl)
  (hargs : az.map a.eval = args:=by first | rfl | (simp only [List.map_toArray,List.map_cons,List.map_nil]; done) | (simp only [List.map_toArray,List.map_cons,List.map_nil]; rfl) | simp) : AllReadyL P md ops Q (Know K) ds fuel listed a w (i :: rs):=by
 refine AllReadyL.cons hoi hd (fun K' hK => ?_) hrest
 rw [if_pos hw]
 have hg:=goes_ (K:=K') (Q:=Q) hfn hname hb args hw hN hop hargs (h.mono (by
  rintro e w' ⟨u,rfl,hS,hh⟩
  exact ⟨u,rfl,hK.out _ _ hS (fun _ => hh)⟩))
 rw [if_pos hw] at hg
 exact hg
section
variable {P : Program} {ops : Array Oper} {md : Region.Mode} {o : Oper} {a : Act} {Q : Exit → Act → World → Prop} {e : List TypeId} {w0 w W : World} {l : List (Nat × Array Value × TypeId)} {rows : List Row} {fx : List (Nat × Obj)} {fuel : Nat} {listed : Array Bool} {ds : List Nat}
theorem _root_.Go.Proofs.YtdbpglhdicmhhaaGreatDoor.Hctx.MemF.raw_len {sz : Nat} {te : TypeId} {g n c : Nat} {xs : List (List Value)} (M : MemF e w0 W l fx rows) (q : Nat) (hq : rows[q]? = some ⟨Kd.raw sz,te,.slice (some ⟨g,0,none⟩) n c,xs⟩) {i : Nat} {x0 : List Value} (hx0 : xs[i]? = some x0) (hi : i < n) : x0.length = sz:=by
 obtain ⟨c0,hcl,hM,hcc,_⟩:=Kd.R_elem (M.mem.owns q _ hq) [] (i : Int) (by omega) (by exact_mod_cast hi)
 rw [Int.toNat_natCast] at hM hcc
 have hgd0 : xs.getD i [] = x0:=by rw [List.getD_eq_getElem?_getD,hx0]; rfl
 obtain ⟨e1,e2,e3⟩:=hM
 rw [hgd0] at e1
 subst e1
 exact e2
theorem kSi {S : World → Prop} {ik : IntKind} {te : TypeId} {g n c : Nat} {xs : List Int} (M : Aside0 (MemF e w0 w l fx (⟨Kd.int ik,te,.slice (some ⟨g,0,none⟩) n c,xs⟩ :: rows))) (i : Nat) (t : TypeId) (p : Operand) (ix : Nat) (x : Int) {rs : List Nat} (hi : ix < n)
  (h : ∀ w',Aside0 (MemF e w0 w' l fx (⟨Kd.int ik,te,.slice (some ⟨g,0,none⟩) n c,xs.set ix x⟩ :: rows)) → wpAnyLast P md ops Q S ds fuel (listed.setIfInBounds i true) a w')
  (hrest : AllReadyL P md ops Q S ds fuel listed a w rs)
  {y : Operand} (hoi : ops[i]? = some o:=by rfl) (hn : o.dst = none:=by rfl) (hw : Region.wanted o (yielded ops a.tmps) = true:=by rfl) (hd : i ∈ ds:=by decide) (ho : o.op = .store t p y:=by rfl)
  (hx : a.eval p = .pointer (some ⟨g,ix,none⟩):=by rfl) (hv : a.eval y = .int ik x:=by rfl) (hs : (P.info? t).map (·.size) = some 1:=by kernel_rfl) : AllReadyL P md ops Q S ds fuel listed a w (i :: rs):=by
 have M0:=M.out.mem
 have hR:=M0.owns 0 _ rfl
 obtain ⟨c0,hcl,hM,hcc,_⟩:=Kd.R_elem hR (0 : Int) (ix : Int) (by omega) (by exact_mod_cast hi)
 rw [Int.toNat_natCast] at hM hcc
 have e1 : c0 = [Value.int ik (xs.getD ix 0)]:=hM
 subst e1
 have hseg:=Kd.R_seg hR (ix : Int) (by omega) (by exact_mod_cast hi) (seg:=[Value.int ik x]) (j:=0) hcl (by rw [Int.toNat_natCast]; exact hcc) (Nat.le_refl 1) (x':=x) (okp:=fun _ => False)
  (show [Value.int ik (xs.getD ix 0)].take 0 ++ [Value.int ik x] ++ [Value.int ik (xs.getD ix 0)].drop (0 + 1) = [Value.int ik x] from rfl) (fun _ hk => hk.elim)
 obtain ⟨hR1,hg⟩:=hseg
 rw [Int.toNat_natCast] at hR1 hg
 have hof : ix * (Kd.int ik).sz + 0 = ix:=by show ix * 1 + 0 = ix; omega
 rw [hof] at hR1 hg
 have hbg : w0.heap.size ≤ g:=Kd.R_base hR g rfl
 obtain ⟨inner,hown⟩:=Kd.R_own hR
 have hrun : (Instr.storeAt t (.pointer (some ⟨g,ix,none⟩)) (.int ik x)).run P w = .ok () (w.setCells g ix [.int ik x]):=by
  have hnx : n = xs.length:=(Kd.R_reads' hR).1
  rcases hown.2 with ⟨hv',_⟩ | ⟨g',cap',cur,hv',hb,hh,hnc,hcm,hcs,_⟩
  ·cases hv'
  injection hv' with ha _ hc
  injection ha with ha
  injection ha with hg'
  subst hg'; subst hc
  refine run_store_run t (.int ik x) [.int ik x] hh rfl hs ?_ (by intro q hq; rw [List.mem_singleton] at hq; subst hq; rfl)
  have h4 : c * 1 = cur.size:=hcs.symm
  show ix + 1 ≤ cur.size
  omega
 have hB : Below w0.heap.size w0 (w.setCells g ix [.int ik x]):=setCells_below g hbg _ _ w M0.below
 refine AllReadyL.cons_last hoi hd (fun K' hK' => ?_) hrest
 rw [if_pos hw]
 unfold Oper.wp execOp
 simp only [ho,hx,hv,Sem.run_bind,Sem.run_pure,Result.andThen_ok,hrun]
 show K' (a.put o.dst undef) _
 rw [hn]
 exact hK'.out _ _ (h _ ⟨M.out.other (M0.written hB hg hR1 (.inl rfl)) (fun q y hy => hg.block y.1 (heap_lt (M.out.fix q y hy).1) (M.out.ne_row 0 q rfl hy))⟩)
end
end Go.Proofs.YtdbpglhdicmhhaaGreatDoor.Hof
end

section
namespace Go.Proofs.YtdbpglhdicmhhaaGreatDoor.Hof
open Go.RowKit Go.Shelf Go.Proofs.YtdbpglhdicmhhaaGreatDoorW.PrintWords Go.Proofs.YtdbpglhdicmhhaaGreatDoorW.PrintLast Go.Proofs.YtdbpglhdicmhhaaGreatDoorW.PrintMore Hctx
open Go.Proofs.YtdbpglhdicmhhaaGreatDoor.GA
noncomputable def tail40 : Code:=(List.range 14).foldl (fun c _ => seqR c) (Tryz.f63.body.getD .skip)
theorem ins_rows {es : List TypeId} {w0 W : World} {l : List (Nat × Array Value × TypeId)} {fx : List (Nat × Obj)} {vc vf vt vi vo vu : Value} {gf gt gl : Nat} {of ot ol : Obj} {vs : List Value} {s : St} {n : Nat} {r : Row} {x0 : List Value} {op a b c imm : Int} (hx : x0.length = 5)
  (M : MemF es w0 W l fx (⟨Kd.raw 5,70,vi,(s.ins.map ints).set n (x0.take 0 ++ [Value.int .i64 op,.int .i64 a,.int .i64 b,.int .i64 c,.int .i64 imm] ++ x0.drop (0 + [Value.int .i64 op,.int .i64 a,.int .i64 b,.int .i64 c,.int .i64 imm].length))⟩ :: ((r :: rowsR ⟨vc,vf,vt,vi,vo,vu,gf,gt,gl,of,ot,ol,vs⟩ s).eraseIdx 4))) :
  MemF es w0 W l fx (r :: rowsR ⟨vc,vf,vt,vi,vo,vu,gf,gt,gl,of,ot,ol,vs⟩ { s with ins:=s.ins.set n [op,a,b,c,imm] }):=by
 have h:=MemF.back 4 (by show 4 < (r :: rowsR _ _).length; simp [rowsR]) M
 have e1 : ({ s with ins:=s.ins.set n [op,a,b,c,imm] } : St).ins.map ints = (s.ins.map ints).set n (x0.take 0 ++ [Value.int .i64 op,.int .i64 a,.int .i64 b,.int .i64 c,.int .i64 imm] ++ x0.drop (0 + [Value.int .i64 op,.int .i64 a,.int .i64 b,.int .i64 c,.int .i64 imm].length)):=by
  rw [List.drop_eq_nil_of_le (by rw [hx]; exact Nat.le_refl 5)]
  show (s.ins.set n _).map ints = _
  rw [List.map_set]; rfl
 have key : ∀ A,A = (s.ins.map ints).set n (x0.take 0 ++ [Value.int .i64 op,.int .i64 a,.int .i64 b,.int .i64 c,.int .i64 imm] ++ x0.drop (0 + [Value.int .i64 op,.int .i64 a,.int .i64 b,.int .i64 c,.int .i64 imm].length)) → MemF es w0 W l fx (r :: ⟨Kd.int .u32,39,vc,s.code⟩ :: ⟨Kd.raw 2,41,vf,s.funcs.map ints⟩ :: ⟨Kd.raw 2,44,vt,tcells vs s.tabs⟩ :: ⟨Kd.raw 5,70,vi,A⟩ :: ⟨Kd.int .i64,3,vo,s.opn⟩ :: ⟨Kd.raw 5,111,vu,s.uses.map ucell⟩ :: csRows vs s.tabs):=by
  intro A hA
  rw [hA]; exact h
 exact key _ e1
theorem Few.fin {k : Nat} {s : St} (h : Few k s) (n : Nat) (i : List Int) (x : Int) : Few k { s with ins:=s.ins.set n i,code:=s.code.set n x } :=
 ⟨by show (s.code.set _ _).length ≤ _; rw [List.length_set]; exact h.code,h.funcs,h.tabs,by show (s.ins.set _ _).length ≤ _; rw [List.length_set]; exact h.ins,h.opn,h.uses,h.cs⟩
section
variable {k : Nat} {w0 W : World} {gr g14 : Nat} {l : List (Nat × Array Value × TypeId)} {h : Hd} {s : St} {op a b c imm e : Int} {n : Nat}
set_option maxHeartbeats 8000000 in
set_option maxRecDepth 100000 in
theorem ins_end {u1 u2 u3 u5 u8 u9 u10 u11 u12 u13 u15 u16 u17 u18 u19 u20 u21 u22 u23 u24 u25 u26 u27 u28 u29 u30 u31 u32 u33 u34 u35 u36 u37 u38 u39 u40 u41 u42 u43 u44 u45 u46 u47 u48 u49 u50 u51 u52 u53 u54 u55 u56 u57 u58 u59 u60 u61 u62 u63 u64 u65 u66 u67 u68 u69 u70 u71 u72 u73 u74 u75 u76 u77 u78 u79 u80 u81 u82 u83 u84 u85 u86 u87 u88 u89 u90 u91 u92 u93 u94 u95 u96 u97 u98 u99 u100 u101 u102 u103 u104 u105 u106 u107 u108 u109 u110 u111 u112 u113 u114 u115 u116 u117 u118 u119 u120 u121 u122 u123 u124 u125 u126 u127 u128 u129 u130 u131 u132 u133 u134 u135 u136 u137 u138 u139 u140 u141 u142 u143 u144 u145 u146 u147 u148 u149 u150 u151 u152 u153 u154 u155 u156 u157 u158 u159 u160 u161 u162 u163 u164 u165 u166 u167 u168 u169 u170 u171 u172 u173 u174 u175 u176 u177 u178 u179 u180 u181 u182 u183 u184 u185 u186 u187 u188 u189 u190 u191 u192 u193 u194 u195 u196 u197 u198 u199 u200 u201 u202 u203 u204 u205 u206 u207 u208 u209 u210 u211 u212 u213 u214 u215 u216 u217 u218 u219 u220 u221 u222 u223 u224 u225 u226 u227 u228 u229 u230 u231 u232 u233 u234 u235 u236 u237 u238 u239 u240 u241 u242 : Value} (M0 : MemF esR w0 W ((gr,cellsR h s,55) :: l) (fxR h) (⟨Kd.raw 5,70,.slice (some ⟨g14,0,none⟩) 1 1,[[Value.int .i64 op,.int .i64 a,.int .i64 b,.int .i64 c,.int .i64 imm]]⟩ :: rowsR h s)) (hf : Few k s) (hsy : Says k h s) (hln : h.vs.length = s.tabs.length) (hk : k ≤ 262144) (hn : s.idle = false → n < s.ins.length ∧ n < s.code.length) :
  Code.wp Tryz.prog tail40 (bodyPost Tryz.prog Tryz.f63 fun z w' => z = .returned (.int .i64 (s.fin n e [op,a,b,c,imm]).2) ∧ ∃ h',RdM k w0 w' gr l h' (s.fin n e [op,a,b,c,imm]).1) ⟨#[(.pointer (some ⟨gr,0,none⟩)),u1,u2,u3,(.int .i64 0),u5,(.int .i64 e),(.int .i64 (n : Int)),u8,u9,u10,u11,u12,u13,(.pointer (some ⟨g14,0,none⟩)),u15,u16,u17,u18,u19,u20,u21,u22,u23,u24,u25,u26,u27,u28,u29,u30,u31,u32,u33,u34,u35,u36,u37,u38,u39,u40,u41,u42,u43,u44,u45,u46,u47,u48,u49,u50,u51,u52,u53,u54,u55,u56,u57,u58,u59,u60,u61,u62,u63,u64,u65,u66,u67,u68,u69,u70,u71,u72,u73,u74,u75,u76,u77,u78,u79,u80,u81,u82,u83,u84,u85,u86,u87,u88,u89,u90,u91,u92,u93,u94,u95,u96,u97,u98,u99,u100,u101,u102,u103,u104,u105,u106,u107,u108,u109,u110,u111,u112,u113,u114,u115,u116,u117,u118,u119,u120,u121,u122,u123,u124,u125,u126,u127,u128,u129,u130,u131,u132,u133,u134,u135,u136,u137,u138,u139,u140,u141,u142,u143,u144,u145,u146,u147,u148,u149,u150,u151,u152,u153,u154,u155,u156,u157,u158,u159,u160,u161,u162,u163,u164,u165,u166,u167,u168,u169,u170,u171,u172,u173,u174,u175,u176,u177,u178,u179,u180,u181,u182,u183,u184,u185,u186,u187,u188,u189,u190,u191,u192,u193,u194,u195,u196,u197,u198,u199,u200,u201,u202,u203,u204,u205,u206,u207,u208,u209,u210,u211,u212,u213,u214,u215,u216,u217,u218,u219,u220,u221,u222,u223,u224,u225,u226,u227,u228,u229,u230,u231,u232,u233,u234,u235,u236,u237,u238,u239,u240,u241,u242],[]⟩ W:=by
 have HF:=Lib.hid hf
 have HS:=Lib.hid hsy
 have HLN:=Lib.hid hln
 have HN:=Lib.hid hn
 have HKK:=Lib.hid hk
 obtain ⟨vc,vf,vt,vi,vo,vu,gf,gt,gl,of,ot,ol,vs⟩:=h
 have M:=Aside0.mk M0
 clear hf hsy hln hn hk M0
 conv => arg 2; whnf
 by_cases he : e = 0
 ·subst he
  have x9 : W.cell? ⟨gr,9,none⟩ = some (.bool s.idle):=rcell M.out 9 rfl
  cases hid : s.idle with
  | true =>
   have HT:=Lib.hid (fin_idle (s:=s) (at_:=n) (i:=[op,a,b,c,imm]) hid)
   rw [hid] at x9
   clear hid
   go_wp2
   go_returns
   rw [HT.out]
   exact ⟨rfl,⟨vc,vf,vt,vi,vo,vu,gf,gt,gl,of,ot,ol,vs⟩,M.out.rowsBy Mem.tail,HF.out,HS.out,HLN.out⟩
  | false =>
   have HT:=Lib.hid (fin_ok (s:=s) (at_:=n) (i:=[op,a,b,c,imm]) hid)
   obtain ⟨hni0,hnc0⟩:=HN.out hid
   rw [hid] at x9
   clear hid
   obtain ⟨gi,ni,ci,rfl,hei,hci⟩ : ∃ g m c,vi = .slice (some ⟨g,0,none⟩) m c ∧ m = s.ins.length ∧ m ≤ c:=by
    rcases MemF.slice M.out 4 rfl with ⟨_,_,h2⟩ | ⟨g,c,h1,h2⟩
    ·have h3:=congrArg List.length h2; rw [List.length_map,List.length_nil] at h3; omega
    ·rw [List.length_map] at h1 h2; exact ⟨g,_,c,h1,rfl,h2⟩
   obtain ⟨gc,nc,cc,rfl,hec,hcc⟩ : ∃ g m c,vc = .slice (some ⟨g,0,none⟩) m c ∧ m = s.code.length ∧ m ≤ c:=by
    rcases MemF.slice M.out 1 rfl with ⟨_,_,h2⟩ | ⟨g,c,h1,h2⟩
    ·have h3 : s.code.length = 0:=congrArg List.length h2; omega
    ·exact ⟨g,_,c,h1,rfl,h2⟩
   have hni : n < ni:=by omega
   have hnc : n < nc:=by omega
   have hniI : (n : Int) < (ni : Int):=by omega
   have hncI : (n : Int) < (nc : Int):=by omega
   have HEI:=Lib.hid hei
   have HEC:=Lib.hid hec
   clear hni0 hnc0 hei hec
   obtain ⟨y0,hy0⟩ : ∃ y,s.ins[n]? = some y:=⟨_,List.getElem?_eq_getElem (by rw [← HEI.out]; exact hni)⟩
   have hx0 : (s.ins.map ints)[n]? = some (ints y0):=by rw [List.getElem?_map,hy0]; rfl
   generalize ints y0 = x0 at hx0
   have HX5:=Lib.hid (MemF.raw_len M.out 4 rfl hx0 hni)
   clear hy0
   obtain ⟨re,hre⟩:=enc_some op a b c imm
   have HEN:=Lib.hid (fun W => word_Encode.calls op a b c imm _ _ W hre)
   clear hre
   go_wp2_with fail
   refine kStart [7] [(⟨gr,3,none⟩,.slice (some ⟨gi,0,none⟩) ni ci),(⟨g14,0,none⟩,.int .i64 op),(⟨g14,1,none⟩,.int .i64 a),(⟨g14,2,none⟩,.int .i64 b),(⟨g14,3,none⟩,.int .i64 c),(⟨g14,4,none⟩,.int .i64 imm)] M ?_ (fun w2 MD HK0 => ?_)
   ·intro q hq
    simp only [List.mem_cons,List.not_mem_nil,or_false] at hq
    rcases hq with rfl | rfl | rfl | rfl | rfl | rfl
    ·exact rcell M.out 3 rfl
    ·exact M.out.elem 0 rfl (i:=0) rfl (by decide) 0 rfl
    ·exact M.out.elem 0 rfl (i:=0) rfl (by decide) 1 rfl
    ·exact M.out.elem 0 rfl (i:=0) rfl (by decide) 2 rfl
    ·exact M.out.elem 0 rfl (i:=0) rfl (by decide) 3 rfl
    ·exact M.out.elem 0 rfl (i:=0) rfl (by decide) 4 rfl
   clear M x9
   refine kP 0 224 (.pointer (some ⟨gr,0,none⟩)) ?_
   simp only [Act.put,sAz,sCz,sCs]
   refine kP 1 225 (.pointer (some ⟨gr,0,none⟩)) ?_
   simp only [Act.put,sAz,sCz,sCs]
   refine kP 2 226 (.pointer (some ⟨gr,3,none⟩)) ?_
   simp only [Act.put,sAz,sCz,sCs]
   refine kE HK0 3 227 0 ?_
   simp only [Act.put,sAz,sCz,sCs]
   refine kP 4 228 (.int .i64 (n : Int)) ?_
   simp only [Act.put,sAz,sCz,sCs]
   refine kM HK0 5 229 g14 0 [Value.int .i64 op,.int .i64 a,.int .i64 b,.int .i64 c,.int .i64 imm] Tryz.underlying70 (fun j u hj => by rcases j with _ | _ | _ | _ | _ | j <;> simp at hj <;> subst hj <;> simp) ?_
   simp only [Act.put,sAz,sCz,sCs]
   refine kP 6 230 (.pointer (some ⟨gi,n * 5,none⟩)) ?_
   simp only [Act.put,sAz,sCz,sCs]
   have MF:=Aside0.mk (MemF.front MD.out 4 rfl)
   clear MD
   refine kR [7] ?_
   refine kSe MF 7 70 (.tmp 230) n 0 (.agg [Value.int .i64 op,.int .i64 a,.int .i64 b,.int .i64 c,.int .i64 imm].toArray) [Value.int .i64 op,.int .i64 a,.int .i64 b,.int .i64 c,.int .i64 imm] x0 hni hx0 ?_ rfl (by intro q hq; simp at hq; rcases hq with rfl | rfl | rfl | rfl | rfl <;> rfl) (Nat.le_refl 5) AllReadyL.nil rfl
   clear MF HK0
   intro w3 MG
   refine kDone ?_
   have MI:=Aside0.mk (ins_rows HX5.out MG.out)
   clear MG
   go_wp2_with fail
   refine kStart [12] [(⟨gr,0,none⟩,.slice (some ⟨gc,0,none⟩) nc cc),(⟨g14,0,none⟩,.int .i64 op),(⟨g14,1,none⟩,.int .i64 a),(⟨g14,2,none⟩,.int .i64 b),(⟨g14,3,none⟩,.int .i64 c),(⟨g14,4,none⟩,.int .i64 imm)] MI ?_ (fun w4 MD HK0 => ?_)
   ·intro q hq
    simp only [List.mem_cons,List.not_mem_nil,or_false] at hq
    rcases hq with rfl | rfl | rfl | rfl | rfl | rfl
    ·exact rcell MI.out 0 rfl
    ·exact MI.out.elem 0 rfl (i:=0) rfl (by decide) 0 rfl
    ·exact MI.out.elem 0 rfl (i:=0) rfl (by decide) 1 rfl
    ·exact MI.out.elem 0 rfl (i:=0) rfl (by decide) 2 rfl
    ·exact MI.out.elem 0 rfl (i:=0) rfl (by decide) 3 rfl
    ·exact MI.out.elem 0 rfl (i:=0) rfl (by decide) 4 rfl
   clear MI
   refine kP 0 232 (.pointer (some ⟨gr,0,none⟩)) ?_
   simp only [Act.put,sAz,sCz,sCs]
   refine kP 1 233 (.pointer (some ⟨gr,0,none⟩)) ?_
   simp only [Act.put,sAz,sCz,sCs]
   refine kP 2 234 (.pointer (some ⟨gr,0,none⟩)) ?_
   simp only [Act.put,sAz,sCz,sCs]
   refine kP 3 235 (.pointer (some ⟨gr,0,none⟩)) ?_
   simp only [Act.put,sAz,sCz,sCs]
   refine kE HK0 4 236 0 ?_
   simp only [Act.put,sAz,sCz,sCs]
   refine kP 5 237 (.int .i64 (n : Int)) ?_
   simp only [Act.put,sAz,sCz,sCs]
   refine kM HK0 6 238 g14 0 [Value.int .i64 op,.int .i64 a,.int .i64 b,.int .i64 c,.int .i64 imm] Tryz.underlying70 (fun j u hj => by rcases j with _ | _ | _ | _ | _ | j <;> simp at hj <;> subst hj <;> simp) ?_
   simp only [Act.put,sAz,sCz,sCs]
   refine kR [7] ?_
   refine kK 7 239 Tryz.func64 #[.agg [Value.int .i64 op,.int .i64 a,.int .i64 b,.int .i64 c,.int .i64 imm].toArray] ((HEN.out _).mono ?_) AllReadyL.nil
   rintro e' w5 ⟨rfl,hb5⟩
   refine ⟨_,rfl,HK0.out.below hb5,?_⟩
   have ME:=Aside0.mk (MD.out.call hb5)
   have HK1:=Aside0.mk (HK0.out.below hb5)
   clear MD HK0 hb5
   simp only [Act.put,sAz,sCz,sCs]
   refine kP 8 231 (.tuple #[.int .u32 (encV [op,a,b,c,imm]),.int .i64 re]) ?_
   simp only [Act.put,sAz,sCz,sCs]
   refine kP 9 240 (.int .u32 (encV [op,a,b,c,imm])) ?_
   simp only [Act.put,sAz,sCz,sCs]
   refine kP 10 241 (.int .i64 re) ?_
   simp only [Act.put,sAz,sCz,sCs]
   refine kP 11 242 (.pointer (some ⟨gc,n,none⟩)) ?_
   simp only [Act.put,sAz,sCz,sCs]
   have MF:=Aside0.mk (MemF.front ME.out 1 rfl)
   clear ME
   refine kR [12] ?_
   refine kSi MF 12 39 (.tmp 242) n (encV [op,a,b,c,imm]) hnc ?_ AllReadyL.nil
   clear MF HK1
   intro w6 MG
   refine kDone ?_
   have MJ:=Aside0.mk ((MemF.back 1 (by show 1 < (_ :: rowsR _ _).length; simp [rowsR]) MG.out).rowsBy Mem.tail)
   clear MG
   go_wp2
   go_returns
   rw [HT.out]
   exact ⟨rfl,⟨.slice (some ⟨gc,0,none⟩) nc cc,vf,vt,.slice (some ⟨gi,0,none⟩) ni ci,vo,vu,gf,gt,gl,of,ot,ol,vs⟩,MJ.out,Few.fin HF.out _ _ _,⟨HS.out.f,HS.out.t,HS.out.l⟩,HLN.out⟩
 ·have HT:=Lib.hid (fin_bad (s:=s) (at_:=n) (i:=[op,a,b,c,imm]) he)
  have b2 : (e != 0) = true:=bne_iff_ne.mpr he
  clear he
  go_wp2
  go_returns
  rw [HT.out]
  exact ⟨rfl,⟨vc,vf,vt,vi,vo,vu,gf,gt,gl,of,ot,ol,vs⟩,M.out.rowsBy Mem.tail,HF.out,HS.out,HLN.out⟩
end
end Go.Proofs.YtdbpglhdicmhhaaGreatDoor.Hof
end
