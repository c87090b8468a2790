import Derived.Test.YtdbpglhdicmhhaaGreatDoorMLi3
import Derived.RegionTactic
import Derived.ChangeAlike
import Derived.Test.YtdbpglhdicmhhaaGreatDoorMLi1
import Derived.Laws.Tables
import Derived.Laws.Rows
import Derived.WalkKit
import Derived.Deep.MidRow
set_option linter.unusedVariables false
set_option linter.unusedSimpArgs false
section
namespace Go.Proofs.YtdbpglhdicmhhaaGreatDoor.Hfits
open Go.RowKit Go.Proofs.YtdbpglhdicmhhaaGreatDoorW.PrintWords Go.Proofs.YtdbpglhdicmhhaaGreatDoorW.PrintMore
def reg (n : Int) : Bool:=decide (0 ≤ n) && decide (n < 16)
def fitsB (a b c m s : Int) : Bool :=
 if s = 0 then a == 0 && (b == 0 && (c == 0 && m == 0))
 else if s = 1 ∨ s = 2 ∨ s = 3 then (decide (¬ s < 2) || b == 0) && ((decide (¬ s < 3) || c == 0) && (reg a && (reg b && (reg c && m == 0))))
 else if s = 4 then a == 0 && (b == 0 && (c == 0 && (reg a && (decide (0 ≤ m) && decide (m < 65536)))))
 else if s = 6 then b == 0 && (c == 0 && (reg a && (decide (-32768 ≤ m) && decide (m < 32768))))
 else b == 0 && (c == 0 && (reg a && (decide (0 ≤ m) && decide (m < 65536))))
set_option maxHeartbeats 1000000 in
set_option maxRecDepth 100000 in
theorem register_calls (n : Int) (w : World) : Calls Tryz.prog 105 #[.int .i64 n] w fun e w' => e = .returned (.bool (reg n)) ∧ w = w':=by
 by_cases h : 0 ≤ n
 ·go_enter Tryz.func105,Tryz.ntmps105
  go_wp2
  go_ret
  exact ⟨by simp [reg,h],rfl⟩
 ·have hd : reg n = false:=by simp [reg]; omega
  have HD:=Lib.hid hd
  clear hd
  go_enter Tryz.func105,Tryz.ntmps105
  go_wp2
  go_ret
  exact ⟨by rw [HD.out]; rfl,rfl⟩
set_option maxHeartbeats 2000000 in
set_option maxRecDepth 100000 in
theorem fits0 (o a b c m : Int) (w : World) :
  Calls Tryz.prog 81 #[.agg #[.int .i64 o,.int .i64 a,.int .i64 b,.int .i64 c,.int .i64 m],.int .i64 0] w fun e w' => e = .returned (.bool (a == 0 && (b == 0 && (c == 0 && m == 0)))) ∧ Below w.heap.size w w':=by
 have hu:=Tryz.underlying70
 go_enter Tryz.func81,Tryz.ntmps81
 go_wp2_with (first | (go_at_call 105; refine (register_calls _ _).mono ?_; rintro e w' ⟨rfl,rfl⟩))
 all_goals go_ret
 all_goals
  refine ⟨?_,?_⟩
  ·first | rfl | (simp_all; done) | (simp_all; omega)
  ·repeat (first | exact Below.refl _ _ | refine Below.alloc ?_ (by simp) _ | refine Below.setCell ?_ (by simp) _ | refine Below.drew ?_)
set_option maxHeartbeats 2000000 in
set_option maxRecDepth 100000 in
theorem fits1 (o a b c m : Int) (w : World) :
  Calls Tryz.prog 81 #[.agg #[.int .i64 o,.int .i64 a,.int .i64 b,.int .i64 c,.int .i64 m],.int .i64 1] w fun e w' => e = .returned (.bool (b == 0 && (c == 0 && (reg a && (reg b && (reg c && m == 0)))))) ∧ Below w.heap.size w w':=by
 have hu:=Tryz.underlying70
 go_enter Tryz.func81,Tryz.ntmps81
 go_wp2_with (first | (go_at_call 105; refine (register_calls _ _).mono ?_; rintro e w' ⟨rfl,rfl⟩))
 all_goals go_ret
 all_goals
  refine ⟨?_,?_⟩
  ·first | rfl | (simp_all; done) | (simp_all; omega)
  ·repeat (first | exact Below.refl _ _ | refine Below.alloc ?_ (by simp) _ | refine Below.setCell ?_ (by simp) _ | refine Below.drew ?_)
set_option maxHeartbeats 2000000 in
set_option maxRecDepth 100000 in
theorem fits2 (o a b c m : Int) (w : World) :
  Calls Tryz.prog 81 #[.agg #[.int .i64 o,.int .i64 a,.int .i64 b,.int .i64 c,.int .i64 m],.int .i64 2] w fun e w' => e = .returned (.bool (c == 0 && (reg a && (reg b && (reg c && m == 0))))) ∧ Below w.heap.size w w':=by
 have hu:=Tryz.underlying70
 go_enter Tryz.func81,Tryz.ntmps81
 go_wp2_with (first | (go_at_call 105; refine (register_calls _ _).mono ?_; rintro e w' ⟨rfl,rfl⟩))
 all_goals go_ret
 all_goals
  refine ⟨?_,?_⟩
  ·first | rfl | (simp_all; done) | (simp_all; omega)
  ·repeat (first | exact Below.refl _ _ | refine Below.alloc ?_ (by simp) _ | refine Below.setCell ?_ (by simp) _ | refine Below.drew ?_)
set_option maxHeartbeats 2000000 in
set_option maxRecDepth 100000 in
theorem fits3 (o a b c m : Int) (w : World) :
  Calls Tryz.prog 81 #[.agg #[.int .i64 o,.int .i64 a,.int .i64 b,.int .i64 c,.int .i64 m],.int .i64 3] w fun e w' => e = .returned (.bool (reg a && (reg b && (reg c && m == 0)))) ∧ Below w.heap.size w w':=by
 have hu:=Tryz.underlying70
 go_enter Tryz.func81,Tryz.ntmps81
 go_wp2_with (first | (go_at_call 105; refine (register_calls _ _).mono ?_; rintro e w' ⟨rfl,rfl⟩))
 all_goals go_ret
 all_goals
  refine ⟨?_,?_⟩
  ·first | rfl | (simp_all; done) | (simp_all; omega)
  ·repeat (first | exact Below.refl _ _ | refine Below.alloc ?_ (by simp) _ | refine Below.setCell ?_ (by simp) _ | refine Below.drew ?_)
set_option maxHeartbeats 2000000 in
set_option maxRecDepth 100000 in
theorem fits4 (o a b c m : Int) (w : World) :
  Calls Tryz.prog 81 #[.agg #[.int .i64 o,.int .i64 a,.int .i64 b,.int .i64 c,.int .i64 m],.int .i64 4] w fun e w' => e = .returned (.bool (a == 0 && (b == 0 && (c == 0 && (reg a && (decide (0 ≤ m) && decide (m < 65536))))))) ∧ Below w.heap.size w w':=by
 have hu:=Tryz.underlying70
 go_enter Tryz.func81,Tryz.ntmps81
 go_wp2_with (first | (go_at_call 105; refine (register_calls _ _).mono ?_; rintro e w' ⟨rfl,rfl⟩))
 all_goals go_ret
 all_goals
  refine ⟨?_,?_⟩
  ·first | rfl | (simp_all; done) | (simp_all; omega)
  ·repeat (first | exact Below.refl _ _ | refine Below.alloc ?_ (by simp) _ | refine Below.setCell ?_ (by simp) _ | refine Below.drew ?_)
set_option maxHeartbeats 2000000 in
set_option maxRecDepth 100000 in
theorem fits6 (o a b c m : Int) (w : World) :
  Calls Tryz.prog 81 #[.agg #[.int .i64 o,.int .i64 a,.int .i64 b,.int .i64 c,.int .i64 m],.int .i64 6] w fun e w' => e = .returned (.bool (b == 0 && (c == 0 && (reg a && (decide (-32768 ≤ m) && decide (m < 32768)))))) ∧ Below w.heap.size w w':=by
 have hu:=Tryz.underlying70
 go_enter Tryz.func81,Tryz.ntmps81
 go_wp2_with (first | (go_at_call 105; refine (register_calls _ _).mono ?_; rintro e w' ⟨rfl,rfl⟩))
 go_region
 all_goals go_wp2_with (first | (go_at_call 105; refine (register_calls _ _).mono ?_; rintro e w' ⟨rfl,rfl⟩))
 all_goals go_ret
 all_goals
  refine ⟨?_,?_⟩
  ·first | rfl | (simp_all; done) | (simp_all; omega)
  ·repeat (first | exact Below.refl _ _ | refine Below.alloc ?_ (by simp) _ | refine Below.setCell ?_ (by simp) _ | refine Below.drew ?_)
set_option maxHeartbeats 2000000 in
set_option maxRecDepth 100000 in
theorem fitsE (o a b c m s : Int) (h : s ≠ 0 ∧ s ≠ 1 ∧ s ≠ 2 ∧ s ≠ 3 ∧ s ≠ 4 ∧ s ≠ 6) (w : World) :
  Calls Tryz.prog 81 #[.agg #[.int .i64 o,.int .i64 a,.int .i64 b,.int .i64 c,.int .i64 m],.int .i64 s] w fun e w' => e = .returned (.bool (b == 0 && (c == 0 && (reg a && (decide (0 ≤ m) && decide (m < 65536)))))) ∧ Below w.heap.size w w':=by
 have hu:=Tryz.underlying70
 obtain ⟨h0,h1,h2,h3,h4,h6⟩:=h
 replace h0 : (s == 0) = false:=beq_eq_false_iff_ne.2 h0
 replace h1 : (s == 1) = false:=beq_eq_false_iff_ne.2 h1
 replace h2 : (s == 2) = false:=beq_eq_false_iff_ne.2 h2
 replace h3 : (s == 3) = false:=beq_eq_false_iff_ne.2 h3
 replace h4 : (s == 4) = false:=beq_eq_false_iff_ne.2 h4
 replace h6 : (s == 6) = false:=beq_eq_false_iff_ne.2 h6
 go_enter Tryz.func81,Tryz.ntmps81
 go_wp2_with (first | (go_at_call 105; refine (register_calls _ _).mono ?_; rintro e w' ⟨rfl,rfl⟩))
 go_region
 all_goals go_wp2_with (first | (go_at_call 105; refine (register_calls _ _).mono ?_; rintro e w' ⟨rfl,rfl⟩))
 all_goals go_ret
 all_goals
  refine ⟨?_,?_⟩
  ·first | rfl | (simp_all; done) | (simp_all; omega)
  ·repeat (first | exact Below.refl _ _ | refine Below.alloc ?_ (by simp) _ | refine Below.setCell ?_ (by simp) _ | refine Below.drew ?_)
end Go.Proofs.YtdbpglhdicmhhaaGreatDoor.Hfits
end

section
namespace Go.Proofs.YtdbpglhdicmhhaaGreatDoor
open Go.RowKit Go.Proofs.YtdbpglhdicmhhaaGreatDoorW.PrintWords
section
variable {P : Program} {ops : Array Oper} {rest : List Oper} {o : Oper} {a : Act} {Q : Exit → Act → World → Prop}
theorem keepBut_setRow (W : World) (g : Nat) (cs : Array Value) : KeepBut W (W.setRow g cs) g none :=
 ⟨Nat.le_of_eq (size_setRow W g cs).symm,fun i _ hi _ => setRow_other W g i cs hi⟩
theorem below_setRow' {B : Nat} {w W : World} (h : Below B w W) {g : Nat} (hg : B ≤ g) (cs : Array Value) : Below B w (W.setRow g cs) :=
 ⟨h.os,h.tape,h.output,by rw [size_setRow]; exact h.size,fun i hi => by rw [setRow_other W g i cs (by omega)]; exact h.block i hi⟩
theorem row_event {W : World} (hgd : o.guard = none) {t : TypeId} {p : Tmp} {v : Operand} (ho : o.op = .store t (.tmp p) v) (hN : o.dst = none) (g : Nat) {tb : TypeId} (old cs : Array Value)
  (hp : a.eval (.tmp p) = .pointer (some ⟨g,0,none⟩)) (hv : a.eval v = .agg cs) (hb : W.heap[g]? = some (.cells old tb (0,0))) (hi : (P.info? t).map (·.size) = some cs.size) (hs : old.size = cs.size) (h1 : cs.all (·.oneCell') = true)
  (h : ∀ w',w'.heap[g]? = some (.cells cs tb (0,0)) → KeepBut W w' g none → (∀ w0 : World,Below w0.heap.size w0 W → w0.heap.size ≤ g → Below w0.heap.size w0 w') → wpList P ops Q rest a w') : wpList P ops Q (o :: rest) a W:=by
 refine wpList_store_row hgd t (.tmp p) v ho g cs hp hv tb old hb hi hs h1 ?_
 rw [hN]
 exact h _ (setRow_heap _ _ _ _ _ _ hb) (keepBut_setRow W g cs) (fun w0 hB hg => below_setRow' hB hg cs)
theorem load_event {W : World} (hgd : o.guard = none) {N : Tmp} (_hd : o.dst = some N) {t : TypeId} {p : Tmp} (ho : o.op = .load t (.tmp p)) (ad : Addr) (v : Value)
  (hp : a.eval (.tmp p) = .pointer (some ad)) (hna : ∀ w,(isAgg t).run P w = .ok false w) (hc : W.cell? ad = some v)
  (h : wpList P ops Q rest (a.put o.dst v) W) : wpList P ops Q (o :: rest) a W:=by
 refine Kd.event_run (v:=v) (w1:=W) hgd ?_ h
 have hl : (loadVar t ad).run P W = .ok v W:=by
  unfold loadVar
  rw [Sem.run_bind,hna W]
  show (load ad).run P W = _
  rw [run_load,hc]
 unfold execOp
 simp only [ho,hp,Instr.loadAt,Instr.sureAddr,Sem.run_bind,Sem.run_pure,Result.andThen_ok,hl]
theorem cell_event {W : World} (hgd : o.guard = none) {t : TypeId} {p : Tmp} {v : Operand} (ho : o.op = .store t (.tmp p) v) (hN : o.dst = none) (g j : Nat) {tb : TypeId} (cs : Array Value) (u : Value)
  (hp : a.eval (.tmp p) = .pointer (some ⟨g,j,none⟩)) (hv : a.eval v = u) (hb : W.heap[g]? = some (.cells cs tb (0,0))) (hj : (cs[j]?).isSome = true) (hi : (P.info? t).map (·.size) = some 1) (h1 : u.oneCell' = true)
  (h : ∀ w',w'.heap[g]? = some (.cells (cs.setIfInBounds j u) tb (0,0)) → KeepBut W w' g none → (∀ w0 : World,Below w0.heap.size w0 W → w0.heap.size ≤ g → Below w0.heap.size w0 w') → wpList P ops Q rest a w') : wpList P ops Q (o :: rest) a W:=by
 refine store_event (w1:=W.setCell ⟨g,j,none⟩ u) hgd ho hN ?_ (fun w' hw => ?_)
 ·obtain ⟨z,hz⟩:=Option.isSome_iff_exists.1 hj
  have hc : W.cell? ⟨g,j,none⟩ = some z:=(blk_cell hb j).trans hz
  have hf : W.frozen? ⟨g,j,none⟩ = false:=blk_frozen hb j
  have hs : (store (⟨g,j,none⟩ : Addr) u).run P W = .ok () (W.setCell ⟨g,j,none⟩ u):=by
   rw [run_store P W _ u _ h1,hc]
   simp [hf]
  have hcells : u.cells = #[u]:=by cases u <;> first | rfl | simp [Value.oneCell'] at h1
  have hsv : (storeVar t ⟨g,j,none⟩ u).run P W = .ok () (W.setCell ⟨g,j,none⟩ u):=by
   cases hq : P.info? t with
   | none => simp [hq] at hi
   | some i =>
    have hz : i.size = 1:=by simpa [hq] using hi
    have ha : (⟨g,j,none⟩ : Addr).add 0 = ⟨g,j,none⟩:=by unfold Addr.add; simp
    have hs' : (store ((⟨g,j,none⟩ : Addr).add 0) u).run P W = .ok () (W.setCell ⟨g,j,none⟩ u):=by rw [ha]; exact hs
    simp [storeVar,sizeOf,typeInfo,hq,hcells,hz,storeCells,hs']
  unfold execOp
  simp only [ho,hp,hv,Instr.storeAt,Instr.sureAddr,Sem.run_bind,Sem.run_pure,Result.andThen_ok,hsv]
 ·subst hw
  exact h _ (blk_set hb j u) ((KeepBut.refl W g none).set_ j u) (fun w0 hB hg => below_set hB hg)
end
end Go.Proofs.YtdbpglhdicmhhaaGreatDoor
end

section
namespace Go.Proofs.YtdbpglhdicmhhaaGreatDoor.Hctx
open Go.RowKit Go.Proofs.YtdbpglhdicmhhaaGreatDoorW.PrintWords Go.Proofs.YtdbpglhdicmhhaaGreatDoorW.PrintLast Go.Proofs.YtdbpglhdicmhhaaGreatDoorW.PrintMore
structure Row where
 {α : Type}
 (d : Kd α) (e : TypeId) (v : Value) (xs : List α)
def okOf (rows : List Row) (i k : Nat) : Prop:=∀ (j : Nat) (s : Row),rows[j]? = some s → j ≠ i → some k ≠ s.v.ownBlock
structure Mem (es : List TypeId) (w0 W : World) (l : List (Nat × Array Value × TypeId)) (rows : List Row) : Prop where
 below : Below w0.heap.size w0 W
 blk : ∀ x,x ∈ l → W.heap[x.1]? = some (.cells x.2.1 x.2.2 (0,0)) ∧ w0.heap.size ≤ x.1 ∧ x.2.2 ∉ es
 apart : l.Pairwise (fun x y => x.1 ≠ y.1)
 typ : ∀ r,r ∈ rows → ∀ q,q ∈ r.e :: r.d.E → q ∈ es
 owns : ∀ (i : Nat) (r : Row),rows[i]? = some r → r.d.R r.e W w0.heap.size (okOf rows i) r.v r.xs
variable {es : List TypeId} {w0 W W1 : World} {l : List (Nat × Array Value × TypeId)} {rows : List Row} {α : Type} {d : Kd α} {e : TypeId} {v : Value} {xs : List α}
theorem Mem.start (es : List TypeId) (w0 : World) : Mem es w0 w0 [] []:=⟨Below.refl _ _,(fun x hx => by cases hx),List.Pairwise.nil,(fun r hr => by cases hr),(fun i r hr => by simp at hr)⟩
theorem Mem.own (M : Mem es w0 W l (⟨d,e,v,xs⟩ :: rows)) : d.R e W w0.heap.size (fun _ => True) v xs:=Kd.R_mono (M.owns 0 _ rfl) (fun _ _ => trivial)
theorem Mem.at (M : Mem es w0 W l rows) (i : Nat) {g : Nat} {cs : Array Value} {t : TypeId} (h : l[i]? = some (g,cs,t)) : W.heap[g]? = some (.cells cs t (0,0)) :=
 (M.blk _ (List.mem_of_getElem? h)).1
theorem Mem.ge (M : Mem es w0 W l rows) (i : Nat) {g : Nat} {cs : Array Value} {t : TypeId} (h : l[i]? = some (g,cs,t)) : w0.heap.size ≤ g :=
 (M.blk _ (List.mem_of_getElem? h)).2.1
theorem Mem.ne (M : Mem es w0 W l rows) (i j : Nat) (hij : i < j) {g g' : Nat} {cs cs' : Array Value} {t t' : TypeId} (h : l[i]? = some (g,cs,t)) (h' : l[j]? = some (g',cs',t')) : g ≠ g':=by
 have hi:=(List.getElem?_eq_some_iff.1 h)
 have hj:=(List.getElem?_eq_some_iff.1 h')
 have:=List.pairwise_iff_getElem.1 M.apart i j hi.1 hj.1 hij
 rw [hi.2,hj.2] at this
 exact this
theorem Mem.call (M : Mem es w0 W l rows) (hb : Below W.heap.size W W1) : Mem es w0 W1 l rows :=
 ⟨below_step M.below hb,fun x hx => ⟨blk_below (M.blk x hx).1 hb,(M.blk x hx).2⟩,M.apart,M.typ,fun i r hr => Kd.R_below (M.owns i r hr) hb⟩
theorem Mem.drewN (M : Mem es w0 W l rows) (n : Nat) : Mem es w0 (W.drewN n) l rows :=
 ⟨pw_below_drewN M.below n,fun x hx => ⟨blk_drewN (M.blk x hx).1 n,(M.blk x hx).2⟩,M.apart,M.typ,fun i r hr => Kd.R_drewN (M.owns i r hr) n⟩
theorem Mem.box (M : Mem es w0 W l rows) {g : Nat} {cs : Array Value} {t : TypeId} (hg : g = W.heap.size) (hbox : W1.heap[g]? = some (.cells cs t (0,0))) (hb : Below W.heap.size W W1) (ht : t ∉ es) : Mem es w0 W1 (l ++ [(g,cs,t)]) rows:=by
 have M1:=M.call hb
 refine ⟨M1.below,fun x hx => ?_,?_,M1.typ,M1.owns⟩
 ·rcases List.mem_append.1 hx with h | h
  ·exact M1.blk x h
  ·rw [List.mem_singleton] at h; subst h
   exact ⟨hbox,by rw [hg]; exact below_size M.below,ht⟩
 ·refine List.pairwise_append.2 ⟨M1.apart,List.pairwise_singleton _ _,fun x hx y hy => ?_⟩
  rw [List.mem_singleton] at hy; subst hy
  have:=blk_lt (M.blk x hx).1
  show x.1 ≠ g
  omega
theorem Mem.keep (M : Mem es w0 W l rows) (i : Nat) {g : Nat} {cs cs' : Array Value} {t : TypeId} (h : l[i]? = some (g,cs,t)) (hn : W1.heap[g]? = some (.cells cs' t (0,0))) (hk : KeepBut W W1 g none) (hb : Below w0.heap.size w0 W1) : Mem es w0 W1 (l.set i (g,cs',t)) rows:=by
 have hi:=List.getElem?_eq_some_iff.1 h
 have ht:=(M.blk _ (List.mem_of_getElem? h))
 refine ⟨hb,fun x hx => ?_,?_,M.typ,?_⟩
 ·obtain ⟨j,hj⟩:=List.mem_iff_getElem?.1 hx
  rw [List.getElem?_set] at hj
  by_cases hij : i = j
  ·subst hij
   rw [if_pos rfl,if_pos hi.1] at hj
   obtain rfl:=Option.some.inj hj
   exact ⟨hn,ht.2⟩
  ·rw [if_neg hij] at hj
   have hxl:=List.mem_of_getElem? hj
   refine ⟨hk.blk (M.blk x hxl).1 ?_ (by simp),(M.blk x hxl).2⟩
   rcases Nat.lt_or_gt_of_ne hij with hlt | hlt
   ·exact (M.ne i j hlt h (g':=x.1) (cs':=x.2.1) (t':=x.2.2) hj).symm
   ·exact M.ne j i hlt (g:=x.1) (cs:=x.2.1) (t:=x.2.2) hj h
 ·rw [List.pairwise_iff_getElem]
  intro a b ha hb' hab
  rw [List.length_set] at ha hb'
  have:=List.pairwise_iff_getElem.1 M.apart a b ha hb' hab
  rw [List.getElem_set,List.getElem_set]
  by_cases h1 : i = a
  ·subst h1
   rw [if_pos rfl,if_neg (by omega)]
   rw [hi.2] at this
   exact this
  ·rw [if_neg h1]
   by_cases h2 : i = b
   ·subst h2
    rw [if_pos rfl]
    rw [hi.2] at this
    exact this
   ·rw [if_neg h2]; exact this
 ·intro j r hr
  exact Kd.R_mono (Kd.R_keep (Kd.R_types (M.owns j r hr) ht.1 (fun q hq hqt => ht.2.2 (by
   have:=M.typ r (List.mem_of_getElem? hr) q hq
   rwa [hqt] at this))) hk (fun _ h_ => h_.2)) (fun _ h_ => h_.1)
theorem Mem.set (M : Mem es w0 W l rows) (i : Nat) {g : Nat} {cs : Array Value} {t : TypeId} (h : l[i]? = some (g,cs,t)) (j : Nat) (u : Value) : Mem es w0 (W.setCell ⟨g,j,none⟩ u) (l.set i (g,cs.setIfInBounds j u,t)) rows :=
 M.keep i h (blk_set (M.at i h) j u) ((KeepBut.refl W g none).set_ j u) (below_set M.below (M.ge i h))
theorem Mem.row (M : Mem es w0 W l rows) (hb : Below W.heap.size W W1) (h : d.R e W1 W.heap.size (fun _ => True) v xs) (ht : ∀ q,q ∈ e :: d.E → q ∈ es:=by decide) : Mem es w0 W1 l (⟨d,e,v,xs⟩ :: rows):=by
 have M1:=M.call hb
 refine ⟨M1.below,M1.blk,M1.apart,fun r hr => ?_,fun i r hr => ?_⟩
 ·rcases List.mem_cons.1 hr with rfl | hr
  ·exact ht
  ·exact M.typ r hr
 ·cases i with
  | zero =>
   obtain rfl : _ = r:=by simpa using hr
   refine Kd.R_lower (Kd.R_mono (Kd.R_bound h) (fun k hk j s hs hj hks => ?_)) (below_size M.below)
   obtain ⟨j,rfl⟩ : ∃ m,j = m + 1:=⟨j - 1,by omega⟩
   have:=Kd.R_lt (M.owns j s (by simpa using hs)) k hks.symm
   have:=hk.2.1
   omega
  | succ i =>
   have hr' : rows[i]? = some r:=by simpa using hr
   refine Kd.R_mono (Kd.R_below (Kd.R_bound (M.owns i r hr')) hb) (fun k hk j s hs hj hks => ?_)
   cases j with
   | zero =>
    obtain rfl : _ = s:=by simpa using hs
    have:=Kd.R_base h k hks.symm
    have:=hk.2.2.1
    omega
   | succ j => exact hk.1 j s (by simpa using hs) (by omega) hks
theorem Mem.cell (M : Mem es w0 W l rows) (i : Nat) {g : Nat} {cs : Array Value} {t : TypeId} (h : l[i]? = some (g,cs,t)) (j : Nat) : W.cell? ⟨g,j,none⟩ = cs[j]?:=blk_cell (M.at i h) j
theorem Mem.free (M : Mem es w0 W l rows) (i : Nat) {g : Nat} {cs : Array Value} {t : TypeId} (h : l[i]? = some (g,cs,t)) (j : Nat) : W.frozen? ⟨g,j,none⟩ = false:=blk_frozen (M.at i h) j
theorem Mem.range (M : Mem es w0 W l rows) (i : Nat) {g : Nat} {cs : Array Value} {t : TypeId} (h : l[i]? = some (g,cs,t)) : W.rangeAt g 0 cs.toList:=fun j u hu => by
 rw [Nat.zero_add,M.cell i h j]; simpa using hu
theorem setCells_keep (g : Nat) : ∀ (us : List Value) (o : Nat) (W : World),KeepBut W (W.setCells g o us) g none
 | [],_,W => KeepBut.refl W g none
 | u :: us,o,W => by
  rw [World.setCells]
  exact KeepBut.trans ((KeepBut.refl W g none).set_ o u) (setCells_keep g us (o + 1) _) (.inl rfl)
theorem setCells_below {B : Nat} {w : World} (g : Nat) (hg : B ≤ g) : ∀ (us : List Value) (o : Nat) (W : World),Below B w W → Below B w (W.setCells g o us)
 | [],_,W,h => h
 | u :: us,o,W,h => by
  rw [World.setCells]
  exact setCells_below g hg us (o + 1) _ (h.setCell hg _)
theorem setCells_blk (g : Nat) {t : TypeId} : ∀ (us pre suf : List Value) (W : World),W.heap[g]? = some (.cells (pre ++ suf).toArray t (0,0)) → us.length = suf.length → (W.setCells g pre.length us).heap[g]? = some (.cells (pre ++ us).toArray t (0,0))
 | [],pre,suf,W,h,hl => by
  obtain rfl : suf = []:=List.length_eq_zero_iff.1 (by simpa using hl.symm)
  exact h
 | u :: us,pre,suf,W,h,hl => by
  obtain ⟨s,suf,rfl⟩ : ∃ s r,suf = s :: r:=by cases suf with | nil => simp at hl | cons s r => exact ⟨s,r,rfl⟩
  rw [World.setCells]
  have h1:=blk_set h pre.length u
  have e : (pre ++ s :: suf).toArray.setIfInBounds pre.length u = ((pre ++ [u]) ++ suf).toArray:=by simp
  rw [e] at h1
  have:=setCells_blk g us (pre ++ [u]) suf _ h1 (by simpa using hl)
  simpa using this
theorem Mem.cells (M : Mem es w0 W l rows) (i : Nat) {g : Nat} {cs : Array Value} {t : TypeId} (h : l[i]? = some (g,cs,t)) (us : Array Value) (hl : us.size = cs.size) : Mem es w0 (W.setCells g 0 us.toList) (l.set i (g,us,t)) rows:=by
 refine M.keep i h ?_ (setCells_keep g us.toList 0 W) (setCells_below g (M.ge i h) us.toList 0 W M.below)
 have:=setCells_blk g (t:=t) us.toList [] cs.toList W (by simpa using M.at i h) (by simpa using hl)
 simpa using this
theorem Mem.written (M : Mem es w0 W l (⟨d,e,v,xs⟩ :: rows)) (hb : Below w0.heap.size w0 W1) (hg : W.grownBy W1 v.ownBlock) {v1 : Value} {ys : List α}
  (h : d.R e W1 w0.heap.size (okOf (⟨d,e,v,xs⟩ :: rows) 0) v1 ys) (hat : v1.ownBlock = v.ownBlock ∨ ∃ b,v1.ownBlock = some b ∧ W.heap.size ≤ b) : Mem es w0 W1 l (⟨d,e,v1,ys⟩ :: rows):=by
 refine ⟨hb,fun x hx => ?_,M.apart,fun r hr => ?_,fun i r hr => ?_⟩
 ·have hx':=M.blk x hx
  refine ⟨blk_grown hx'.1 hg (fun he => ?_),hx'.2⟩
  obtain ⟨cells,hc⟩:=Kd.R_typed (M.owns 0 _ rfl) x.1 he.symm
  have h2:=hx'.1.symm.trans hc
  injection h2 with h2
  injection h2 with _ h3 _
  exact hx'.2.2 (by rw [h3]; exact M.typ _ List.mem_cons_self _ List.mem_cons_self)
 ·rcases List.mem_cons.1 hr with rfl | hr
  ·exact M.typ ⟨d,e,v,xs⟩ List.mem_cons_self
  ·exact M.typ r (List.mem_cons_of_mem _ hr)
 ·cases i with
  | zero =>
   obtain rfl : _ = r:=by simpa using hr
   refine Kd.R_mono h (fun k hk j s hs hj => ?_)
   obtain ⟨j,rfl⟩ : ∃ m,j = m + 1:=⟨j - 1,by omega⟩
   exact hk (j + 1) s (by simpa using hs) (by omega)
  | succ i =>
   have hr' : (⟨d,e,v,xs⟩ :: rows)[i + 1]? = some r:=by simpa using hr
   have h0:=M.owns (i + 1) r hr'
   refine Kd.R_mono (Kd.R_grown (Kd.R_bound h0) hg (fun k hk => hk.1 0 _ rfl (by omega))) (fun k hk j s hs hj => ?_)
   cases j with
   | zero =>
    obtain rfl : _ = s:=by simpa using hs
    rcases hat with he | ⟨b,he,hbb⟩
    ·show some k ≠ v1.ownBlock
     rw [he]
     exact hk.1 0 _ rfl (by omega)
    ·show some k ≠ v1.ownBlock
     rw [he]
     intro hkb
     injection hkb with hkb
     have:=hk.2.2.1
     omega
   | succ j => exact hk.1 (j + 1) s (by simpa using hs) (by omega)
theorem Mem.okFresh (M : Mem es w0 W l rows) (i k : Nat) (hk : W.heap.size ≤ k) : okOf rows i k:=fun j s hs hj he => by
 have:=Kd.R_lt (M.owns j s hs) k he.symm
 omega
theorem okOne (r : Row) (k : Nat) : okOf [r] 0 k:=fun j s hs hj => by
 cases j with
 | zero => exact absurd rfl hj
 | succ j => simp at hs
theorem Mem.append (M : Mem es w0 W l [⟨d,e,v,xs⟩]) (hb : Below w0.heap.size w0 W1) (hg : W.grownBy W1 v.ownBlock) {v1 : Value} {ys : List α} (h : d.R e W1 w0.heap.size (fun _ => True) v1 ys)
  (hat : v1.ownBlock = v.ownBlock ∨ ∃ b,v1.ownBlock = some b ∧ W.heap.size ≤ b) : Mem es w0 W1 l [⟨d,e,v1,ys⟩] :=
 M.written hb hg (Kd.R_mono h (fun k _ => okOne _ k)) hat
theorem Mem.own_to (M : Mem es w0 W l [⟨d,e,v,xs⟩]) {v1 : Value} {ys : List α} (h : d.R e W w0.heap.size (fun _ => True) v1 ys) : Mem es w0 W l [⟨d,e,v1,ys⟩] :=
 ⟨M.below,M.blk,M.apart,fun r hr => by rw [List.mem_singleton] at hr; subst hr; exact M.typ ⟨d,e,v,xs⟩ List.mem_cons_self,fun i r hr => by
  cases i with
  | zero =>
   obtain rfl : _ = r:=by simpa using hr
   exact Kd.R_mono h (fun k _ => okOne _ k)
  | succ i => simp at hr⟩
theorem Mem.tail {r : Row} (M : Mem es w0 W l (r :: rows)) : Mem es w0 W l rows :=
 ⟨M.below,M.blk,M.apart,fun s hs => M.typ s (List.mem_cons_of_mem _ hs),fun i s hs => Kd.R_mono (M.owns (i + 1) s (by simpa using hs)) (fun k hk j s' hs' hj => hk (j + 1) s' (by simpa using hs') (by omega))⟩
theorem Mem.none (M : Mem es w0 W l rows) : Mem es w0 W l []:=⟨M.below,M.blk,M.apart,(fun r hr => by cases hr),(fun i r hr => by simp at hr)⟩
theorem Mem.drawn (M : Mem es w0 W l rows) (h : Drawn0 W W1) : Mem es w0 W1 l rows:=by
 obtain ⟨n,rfl⟩:=h
 exact M.drewN n
theorem Mem.drew (M : Mem es w0 W l rows) : Mem es w0 W.drew l rows :=
 ⟨M.below.drew,fun x hx => ⟨blk_drew (M.blk x hx).1,(M.blk x hx).2⟩,M.apart,M.typ,fun i r hr => Kd.R_drew (M.owns i r hr)⟩
end Go.Proofs.YtdbpglhdicmhhaaGreatDoor.Hctx
end

section
namespace Go.Proofs.YtdbpglhdicmhhaaGreatDoorW.PrintWords
open Go.RowKit
section
variable {P : Program} {ops : Array Oper} {rest : List Oper} {o : Oper} {a : Act} {Q : Exit → Act → World → Prop} {W : World}
theorem gate_guard (hw : Region.wanted o (yielded ops a.tmps) = true) (h : wpList P ops Q ({ o with guard:=none } :: rest) a W) : wpList P ops Q (o :: rest) a W:=by
 have h1 : Region.wanted { o with guard:=none } (yielded ops a.tmps) = true:=rfl
 unfold wpList at h ⊢
 rw [if_pos h1] at h
 rw [if_pos hw]
 exact h
end
end Go.Proofs.YtdbpglhdicmhhaaGreatDoorW.PrintWords
end

section
namespace Go.Proofs.YtdbpglhdicmhhaaGreatDoor.Hctx
open Go.RowKit Go.Proofs.YtdbpglhdicmhhaaGreatDoorW.PrintWords Go.Proofs.YtdbpglhdicmhhaaGreatDoorW.PrintLast Go.Proofs.YtdbpglhdicmhhaaGreatDoorW.PrintMore
section
variable {P : Program} {ops : Array Oper} {rest : List Oper} {o : Oper} {a : Act} {Q : Exit → Act → World → Prop} {e : List TypeId} {w0 W : World} {l : List (Nat × Array Value × TypeId)} {rows : List Row}
theorem eB (M : Aside0 (Mem e w0 W l rows)) (N : Tmp) (cs : Array Value) (t : TypeId)
  (h : ∀ g w1,Aside0 (Mem e w0 w1 (l ++ [(g,cs,t)]) rows) → wpList P ops Q rest (a.put o.dst (.pointer (some ⟨g,0,none⟩))) w1)
  (hd : o.dst = some N:=by with_reducible rfl) (hgd : o.guard = none:=by with_reducible rfl) (he : t ∉ e:=by decide)
  (hr : (execOp a.eval o).run P W = .ok (.value (.pointer (some ⟨W.heap.size,0,none⟩))) (W.alloc (.cells cs t (0,0))):=by first | (go_simp; done) | (go_simp; rfl)) :
  wpList P ops Q (o :: rest) a W :=
 box_event hgd hd hr fun g hg w1 hbox hb => h g w1 ⟨Mem.box M.out hg hbox hb he⟩
theorem eL {d : TypeDesc} {ty : TypeId} (M : Aside0 (Mem e w0 W l rows)) (N : Tmp) (i : Nat) (hu : P.underlying ty = some d) {g : Nat} {cs : Array Value} {tb : TypeId} {p : Tmp}
  (h : wpList P ops Q rest (a.put o.dst (.agg cs)) W)
  (hd : o.dst = some N:=by with_reducible rfl) (hgd : o.guard = none:=by with_reducible rfl) (ho : o.op = .load ty (.tmp p):=by with_reducible rfl)
  (hi : l[i]? = some (g,cs,tb):=by rfl) (hx : a.eval (.tmp p) = .pointer (some ⟨g,0,none⟩):=by rfl)
  (hdd : (match d with | .struct _ | .array _ _ => true | _ => false) = true:=by rfl) (hs : (P.info? ty).map (·.size) = some cs.size:=by kernel_rfl) :
  wpList P ops Q (o :: rest) a W :=
 wpList_load_row hgd ty (.tmp p) ho g hx tb cs (0,0) d (M.out.at i hi) hu hdd hs h
theorem eC (M : Aside0 (Mem e w0 W l rows)) (N : Tmp) (i j : Nat) (u : Value) {g : Nat} {cs : Array Value} {tb t : TypeId} {p : Tmp}
  (h : wpList P ops Q rest (a.put o.dst u) W)
  (hd : o.dst = some N:=by with_reducible rfl) (hgd : o.guard = none:=by with_reducible rfl) (ho : o.op = .load t (.tmp p):=by with_reducible rfl)
  (hi : l[i]? = some (g,cs,tb):=by rfl) (hv : cs[j]? = some u:=by rfl) (hx : a.eval (.tmp p) = .pointer (some ⟨g,j,none⟩):=by first | rfl | (go_simp; done) | (go_simp; rfl))
  (hna : ∀ w,(isAgg t).run P w = .ok false w:=by intro _; kernel_rfl) :
  wpList P ops Q (o :: rest) a W :=
 load_event hgd hd ho ⟨g,j,none⟩ u hx hna ((M.out.cell i hi j).trans hv) h
theorem eR (M : Aside0 (Mem e w0 W l rows)) (t : TypeId) (p : Tmp) (i : Nat) (new : Array Value) {g : Nat} {old : Array Value} {tb : TypeId} {x : Operand}
  (h : ∀ w',Aside0 (Mem e w0 w' (l.set i (g,new,tb)) rows) → wpList P ops Q rest a w')
  (ho : o.op = .store t (.tmp p) x:=by with_reducible rfl) (hn : o.dst = none:=by with_reducible rfl) (hgd : o.guard = none:=by with_reducible rfl)
  (hi : l[i]? = some (g,old,tb):=by rfl) (hx : a.eval (.tmp p) = .pointer (some ⟨g,0,none⟩):=by rfl) (hv : a.eval x = .agg new:=by first | rfl | (go_simp; done) | (go_simp; rfl))
  (hs : (P.info? t).map (·.size) = some new.size:=by kernel_rfl) (hso : old.size = new.size:=by rfl) (h1 : new.all (·.oneCell') = true:=by kernel_rfl) :
  wpList P ops Q (o :: rest) a W :=
 row_event hgd ho hn g old new hx hv (M.out.at i hi) hs hso h1 fun w' hn' hk hb => h w' ⟨Mem.keep M.out i hi hn' hk (hb w0 M.out.below (M.out.ge i hi))⟩
theorem eS (M : Aside0 (Mem e w0 W l rows)) (t : TypeId) (p : Tmp) (i j : Nat) (u : Value) (new : Array Value) {g : Nat} {cs : Array Value} {tb : TypeId} {x : Operand}
  (h : ∀ w',Aside0 (Mem e w0 w' (l.set i (g,new,tb)) rows) → wpList P ops Q rest a w')
  (ho : o.op = .store t (.tmp p) x:=by with_reducible rfl) (hn : o.dst = none:=by with_reducible rfl) (hgd : o.guard = none:=by with_reducible rfl)
  (hi : l[i]? = some (g,cs,tb):=by rfl) (hx : a.eval (.tmp p) = .pointer (some ⟨g,j,none⟩):=by first | rfl | (go_simp; done) | (go_simp; rfl)) (hv : a.eval x = u:=by first | rfl | (go_simp; done) | (go_simp; rfl))
  (hj : cs[j]?.isSome = true:=by rfl) (hs : (P.info? t).map (·.size) = some 1:=by kernel_rfl) (h1 : u.oneCell' = true:=by rfl) (hnew : cs.setIfInBounds j u = new:=by rfl) :
  wpList P ops Q (o :: rest) a W :=
 cell_event hgd ho hn g j cs u hx hv (M.out.at i hi) hj hs h1 fun w' hn' hk hb => h w' ⟨Mem.keep M.out i hi (hnew ▸ hn') hk (hb w0 M.out.below (M.out.ge i hi))⟩
end
end Go.Proofs.YtdbpglhdicmhhaaGreatDoor.Hctx
end
