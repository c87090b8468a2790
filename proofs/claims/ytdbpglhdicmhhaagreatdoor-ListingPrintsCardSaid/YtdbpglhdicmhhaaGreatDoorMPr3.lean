import Derived.Test.YtdbpglhdicmhhaaGreatDoorMPr2
import Derived.Laws.Tables
import Derived.Laws.Rows
import Derived.Test.YtdbpglhdicmhhaaGreatDoorMPr1
import Derived.Deep.RegionHeld3
import Derived.Deep.MidRow
import Derived.Lib.AppendIntMem
import Derived.Test.YtdbpglhdicmhhaaGreatDoorProg
import Derived.Test.YtdbpglhdicmhhaaGreatDoorMPr0
import Derived.Laws.StructEq
set_option linter.unusedVariables false
set_option linter.unusedSimpArgs false
section
namespace Go.Proofs.YtdbpglhdicmhhaaGreatDoor.iM
open Go.RowKit Go.Proofs.YtdbpglhdicmhhaaGreatDoorW.aI Go.Proofs.YtdbpglhdicmhhaaGreatDoorW.aX Go.Proofs.YtdbpglhdicmhhaaGreatDoorW.aZ
section
variable {P : Program} {ops : Array Oper} {rest : List Oper} {o : Oper} {a : Act} {Q : Exit → Act → World → Prop} {e : List TypeId} {w0 W : World} {l : List (Nat × Array Value × TypeId)} {rows : List Row}
theorem eB (M : ah (Mem e w0 W l rows)) (N : Tmp) (cs : Array Value) (t : TypeId)
  (h : ∀ g w1,ah (Mem e w0 w1 (l ++ [(g,cs,t)]) rows) → wpList P ops Q rest (a.put o.dst (.pointer (some ⟨g,0,none⟩))) w1)
  (hd : o.dst = some N:=by with_reducible rfl) (hgd : o.guard = none:=by with_reducible rfl) (he : t ∉ e:=by decide)
  (hr : (execOp a.eval o).run P W = .ok (.value (.pointer (some ⟨W.heap.size,0,none⟩))) (W.alloc (.cells cs t (0,0))):=by first | (go_simp; done) | (go_simp; rfl)) :
  wpList P ops Q (o :: rest) a W :=
 dV hgd hd hr fun g hg w1 hbox hb => h g w1 ⟨Mem.box M.out hg hbox hb he⟩
theorem eL {d : TypeDesc} {ty : TypeId} (M : ah (Mem e w0 W l rows)) (N : Tmp) (i : Nat) (hu : P.underlying ty = some d) {g : Nat} {cs : Array Value} {tb : TypeId} {p : Tmp}
  (h : wpList P ops Q rest (a.put o.dst (.agg cs)) W)
  (hd : o.dst = some N:=by with_reducible rfl) (hgd : o.guard = none:=by with_reducible rfl) (ho : o.op = .load ty (.tmp p):=by with_reducible rfl)
  (hi : l[i]? = some (g,cs,tb):=by rfl) (hx : a.eval (.tmp p) = .pointer (some ⟨g,0,none⟩):=by rfl)
  (hdd : (match d with | .struct _ | .array _ _ => true | _ => false) = true:=by rfl) (hs : (P.info? ty).map (·.size) = some cs.size:=by kernel_rfl) :
  wpList P ops Q (o :: rest) a W :=
 wpList_load_row hgd ty (.tmp p) ho g hx tb cs (0,0) d (M.out.at i hi) hu hdd hs h
theorem eC (M : ah (Mem e w0 W l rows)) (N : Tmp) (i j : Nat) (u : Value) {g : Nat} {cs : Array Value} {tb t : TypeId} {p : Tmp}
  (h : wpList P ops Q rest (a.put o.dst u) W)
  (hd : o.dst = some N:=by with_reducible rfl) (hgd : o.guard = none:=by with_reducible rfl) (ho : o.op = .load t (.tmp p):=by with_reducible rfl)
  (hi : l[i]? = some (g,cs,tb):=by rfl) (hv : cs[j]? = some u:=by rfl) (hx : a.eval (.tmp p) = .pointer (some ⟨g,j,none⟩):=by first | rfl | (go_simp; done) | (go_simp; rfl))
  (hna : ∀ w,(isAgg t).run P w = .ok false w:=by intro _; kernel_rfl) :
  wpList P ops Q (o :: rest) a W :=
 QX hgd hd ho ⟨g,j,none⟩ u hx hna ((M.out.cell i hi j).trans hv) h
theorem eR (M : ah (Mem e w0 W l rows)) (t : TypeId) (p : Tmp) (i : Nat) (new : Array Value) {g : Nat} {old : Array Value} {tb : TypeId} {x : Operand}
  (h : ∀ w',ah (Mem e w0 w' (l.set i (g,new,tb)) rows) → wpList P ops Q rest a w')
  (ho : o.op = .store t (.tmp p) x:=by with_reducible rfl) (hn : o.dst = none:=by with_reducible rfl) (hgd : o.guard = none:=by with_reducible rfl)
  (hi : l[i]? = some (g,old,tb):=by rfl) (hx : a.eval (.tmp p) = .pointer (some ⟨g,0,none⟩):=by rfl) (hv : a.eval x = .agg new:=by first | rfl | (go_simp; done) | (go_simp; rfl))
  (hs : (P.info? t).map (·.size) = some new.size:=by kernel_rfl) (hso : old.size = new.size:=by rfl) (h1 : new.all (·.oneCell') = true:=by kernel_rfl) :
  wpList P ops Q (o :: rest) a W :=
 CY hgd ho hn g old new hx hv (M.out.at i hi) hs hso h1 fun w' hn' hk hb => h w' ⟨Mem.keep M.out i hi hn' hk (hb w0 M.out.below (M.out.ge i hi))⟩
theorem eS (M : ah (Mem e w0 W l rows)) (t : TypeId) (p : Tmp) (i j : Nat) (u : Value) (new : Array Value) {g : Nat} {cs : Array Value} {tb : TypeId} {x : Operand}
  (h : ∀ w',ah (Mem e w0 w' (l.set i (g,new,tb)) rows) → wpList P ops Q rest a w')
  (ho : o.op = .store t (.tmp p) x:=by with_reducible rfl) (hn : o.dst = none:=by with_reducible rfl) (hgd : o.guard = none:=by with_reducible rfl)
  (hi : l[i]? = some (g,cs,tb):=by rfl) (hx : a.eval (.tmp p) = .pointer (some ⟨g,j,none⟩):=by first | rfl | (go_simp; done) | (go_simp; rfl)) (hv : a.eval x = u:=by first | rfl | (go_simp; done) | (go_simp; rfl))
  (hj : cs[j]?.isSome = true:=by rfl) (hs : (P.info? t).map (·.size) = some 1:=by kernel_rfl) (h1 : u.oneCell' = true:=by rfl) (hnew : cs.setIfInBounds j u = new:=by rfl) :
  wpList P ops Q (o :: rest) a W :=
 IU hgd ho hn g j cs u hx hv (M.out.at i hi) hj hs h1 fun w' hn' hk hb => h w' ⟨Mem.keep M.out i hi (hnew ▸ hn') hk (hb w0 M.out.below (M.out.ge i hi))⟩
end
end Go.Proofs.YtdbpglhdicmhhaaGreatDoor.iM
end

section
namespace Go.Proofs.YtdbpglhdicmhhaaGreatDoor.iM
open Go.RowKit Go.Proofs.YtdbpglhdicmhhaaGreatDoorW.aI Go.Proofs.YtdbpglhdicmhhaaGreatDoorW.aX Go.Proofs.YtdbpglhdicmhhaaGreatDoorW.aZ
def Cells (w0 : World) (T : List (Addr × Value)) : Prop:=∀ c ∈ T,w0.cell? c.1 = some c.2
theorem Cells.nil (w0 : World) : Cells w0 []:=fun c hc => by cases hc
theorem Cells.one {w0 : World} {ad : Addr} {u : Value} (h : w0.cell? ad = some u) : Cells w0 [(ad,u)]:=fun c hc => by rw [List.mem_singleton] at hc; subst hc; exact h
def Held (L : List (Nat × Array Value × TypeId)) (T : List (Addr × Value)) (w : World) : Prop:=(∀ x ∈ L,w.heap[x.1]? = some (.cells x.2.1 x.2.2 (0,0))) ∧ ∀ c ∈ T,w.cell? c.1 = some c.2
section
variable {P : Program} {ops : Array Oper} {md : Region.Mode} {o : Oper} {a : Act} {Q : Exit → Act → World → Prop} {e : List TypeId} {w0 w W : World} {l L : List (Nat × Array Value × TypeId)} {T : List (Addr × Value)} {rows : List Row} {fuel : Nat} {listed : Array Bool} {ds : List Nat}
theorem Mem.perm {l' : List (Nat × Array Value × TypeId)} (M : Mem e w0 W l rows) (h : l.Perm l') : Mem e w0 W l' rows :=
 ⟨M.below,fun x hx => M.blk x (h.mem_iff.2 hx),h.pairwise M.apart (fun hxy => Ne.symm hxy),M.typ,M.owns⟩
theorem Mem.forget (M : Mem e w0 W l rows) (n : Nat) : Mem e w0 W (l.take n) rows :=
 ⟨M.below,fun x hx => M.blk x (List.mem_of_mem_take hx),M.apart.sublist (List.take_sublist n l),M.typ,M.owns⟩
theorem Mem.held (M : Mem e w0 W l rows) (hT : Cells w0 T) (h : l.take L.length = L) : Held L T W:=by
 refine ⟨fun x hx => ?_,fun c hc => ?_⟩
 ·rw [← h] at hx
  exact (M.blk x (List.mem_of_mem_take hx)).1
 ·have h0:=hT c hc
  rw [M.below.cell (World.block_lt_of_cell? w0 c.1 h0)]
  exact h0
theorem Held.at (H : Held L T W) (i : Nat) {g : Nat} {cs : Array Value} {t : TypeId} (h : L[i]? = some (g,cs,t)) : W.heap[g]? = some (.cells cs t (0,0)):=H.1 _ (List.mem_of_getElem? h)
theorem dY (M : ah (Mem e w0 w l rows)) (i : Nat) (N : Tmp) (u : Value) (hy : YieldsIf P ops (Held L T) o u a)
  (h : bJ P md ops (NoPanic Q) (Held L T) ds fuel (listed.setIfInBounds i true) (a.put (some N) u) w) (hoi : ops[i]? = some o) (hN : o.dst = some N)
  (hs : Region.noSelect ops = true) (hf : Region.free md ops listed i = true) (hr : (Region.ready md ops listed).contains i = true) (hc : Region.tH md ops listed = true) (hla : Region.lastB md ops listed ds i = true) (hl : l.take L.length = L) (hT : Cells w0 T) : bJ P md ops (NoPanic Q) (Held L T) ds (fuel + 1) listed a w :=
 zJ hoi hs hf hr hc hla (fun _ _ _ h => h) hy (M.out.held hT hl) (by rw [hN]; exact h)
theorem Dz {ty : TypeId} {p : Tmp} {ad : Addr} {u : Value} {w' : World} (ho : o.op = .load ty (.tmp p)) (hx : a.eval (.tmp p) = .pointer (some ad)) (hc : w'.cell? ad = some u) (hna : ∀ w,(isAgg ty).run P w = .ok false w) : (execOp a.eval o).run P w' = .ok (.value u) w':=by
 have hl : (loadVar ty ad).run P w' = .ok u w':=by
  unfold loadVar
  rw [Sem.run_bind,hna w']
  show (load ad).run P w' = _
  rw [run_load,hc]
 unfold execOp
 simp only [ho,hx,Instr.loadAt,Instr.sureAddr,Sem.run_bind,Sem.run_pure,Result.andThen_ok,hl]
theorem dC {ty : TypeId} (M : ah (Mem e w0 w l rows)) (i : Nat) (N : Tmp) (k j : Nat) (u : Value) {p : Tmp} {g : Nat} {cs : Array Value} {tb : TypeId}
  (h : bJ P md ops (NoPanic Q) (Held L T) ds fuel (listed.setIfInBounds i true) (a.put (some N) u) w)
  (hoi : ops[i]? = some o:=by rfl) (hN : o.dst = some N:=by rfl) (ho : o.op = .load ty (.tmp p):=by rfl) (hw : Region.wanted o (yielded ops a.tmps) = true:=by rfl)
  (hk : L[k]? = some (g,cs,tb):=by rfl) (hv : cs[j]? = some u:=by rfl) (hx : a.eval (.tmp p) = .pointer (some ⟨g,j,none⟩):=by rfl) (hna : ∀ w,(isAgg ty).run P w = .ok false w:=by intro _; kernel_rfl)
  (hs : Region.noSelect ops = true:=by kernel_rfl) (hf : Region.free md ops listed i = true:=by kernel_rfl) (hr : (Region.ready md ops listed).contains i = true:=by kernel_rfl) (hc : Region.tH md ops listed = true:=by kernel_rfl) (hla : Region.lastB md ops listed ds i = true:=by kernel_rfl) (hl : l.take L.length = L:=by rfl) (hT : Cells w0 T:=by first | exact Cells.nil _ | assumption) : bJ P md ops (NoPanic Q) (Held L T) ds (fuel + 1) listed a w :=
 dY M i N _ (.inl ⟨hw,fun w' hw' => Dz ho hx ((aA (hw'.at k hk) j).trans hv) hna⟩) h hoi hN hs hf hr hc hla hl hT
theorem dM {ty : TypeId} {d : TypeDesc} (M : ah (Mem e w0 w l rows)) (i : Nat) (N : Tmp) (k off : Nat) (us : List Value) (hu : P.underlying ty = some d) {p : Tmp} {g : Nat} {cs : Array Value} {tb : TypeId}
  (h : bJ P md ops (NoPanic Q) (Held L T) ds fuel (listed.setIfInBounds i true) (a.put (some N) (.agg us.toArray)) w)
  (hoi : ops[i]? = some o:=by rfl) (hN : o.dst = some N:=by rfl) (ho : o.op = .load ty (.tmp p):=by rfl) (hw : Region.wanted o (yielded ops a.tmps) = true:=by rfl)
  (hk : L[k]? = some (g,cs,tb):=by rfl) (hv : (cs.toList.drop off).take us.length = us:=by rfl) (hx : a.eval (.tmp p) = .pointer (some ⟨g,off,none⟩):=by rfl) (hd : d.isRow = true:=by rfl) (hi : (P.info? ty).map (·.size) = some us.length:=by kernel_rfl)
  (hs : Region.noSelect ops = true:=by kernel_rfl) (hf : Region.free md ops listed i = true:=by kernel_rfl) (hr : (Region.ready md ops listed).contains i = true:=by kernel_rfl) (hc : Region.tH md ops listed = true:=by kernel_rfl) (hla : Region.lastB md ops listed ds i = true:=by kernel_rfl) (hl : l.take L.length = L:=by rfl) (hT : Cells w0 T:=by first | exact Cells.nil _ | assumption) : bJ P md ops (NoPanic Q) (Held L T) ds (fuel + 1) listed a w :=
 dY M i N _ (yieldsIf_load_mid hw ty _ ho g off hx us d (fun w' hw' j u hu' => by
  rw [aA (hw'.at k hk) (off + j)]
  rw [← hv,List.getElem?_take] at hu'
  split at hu'
  ·rw [List.getElem?_drop] at hu'
   simpa using hu'
  ·cases hu') hu hd hi) h hoi hN hs hf hr hc hla hl hT
theorem dP (i : Nat) (N : Tmp) (u : Value)
  (h : bJ P md ops (NoPanic Q) (Held L T) ds fuel (listed.setIfInBounds i true) (a.put (some N) u) w)
  (hoi : ops[i]? = some o:=by rfl) (hN : o.dst = some N:=by rfl) (hw : Region.wanted o (yielded ops a.tmps) = true:=by rfl)
  (hy : ∀ w,(execOp a.eval o).run P w = .ok (.value u) w:=by intro _; first | rfl | (go_simp; done) | (go_simp; rfl))
  (hs : Region.noSelect ops = true:=by kernel_rfl) (hf : Region.free md ops listed i = true:=by kernel_rfl) (hr : (Region.ready md ops listed).contains i = true:=by kernel_rfl) : bJ P md ops (NoPanic Q) (Held L T) ds (fuel + 1) listed a w :=
 vW hoi (Region.noSelect_spec hs) (fun _ _ _ h => h) fuel listed a w (Region.free_spec hoi hf) (by simpa using hr) (.inl ⟨hw,hy⟩) (by rw [hN]; exact h)
theorem dR (rs : List Nat) (h : aK P md ops Q (Held L T) ds fuel listed a w rs) (hr : Region.ready md ops listed = rs:=by kernel_rfl) (hne : rs ≠ []:=by simp) : bJ P md ops Q (Held L T) ds (fuel + 1) listed a w :=
 tJ hr hne h
theorem aaP (h : Q .normal a w) (hr : Region.ready md ops listed = []:=by kernel_rfl) : bJ P md ops (NoPanic Q) (Held L T) ds fuel listed a w:=zI hr (NoPanic.normal h) _
end
end Go.Proofs.YtdbpglhdicmhhaaGreatDoor.iM
end

section
namespace Go.Proofs.YtdbpglhdicmhhaaGreatDoor.iM
open Go.RowKit Go.Proofs.YtdbpglhdicmhhaaGreatDoorW.aI Go.Proofs.YtdbpglhdicmhhaaGreatDoorW.aX Go.Proofs.YtdbpglhdicmhhaaGreatDoorW.aZ
section
variable {P : Program} {ops : Array Oper} {rest : List Oper} {o : Oper} {a : Act} {Q : Exit → Act → World → Prop} {es : List TypeId} {w0 W W1 : World} {l : List (Nat × Array Value × TypeId)} {rows : List Row}
theorem Mem.fQ (M : Mem es w0 W l rows) (f g : Nat → Nat) {rows' : List Row} (hf : ∀ i,rows'[i]? = rows[f i]?) (hi : ∀ i j,(rows'[i]?).isSome = true → (rows'[j]?).isSome = true → f i = f j → i = j) (hg : ∀ j,(rows[j]?).isSome = true → f (g j) = j) : Mem es w0 W l rows':=by
 refine ⟨M.below,M.blk,M.apart,fun r hr => ?_,fun i r hr => ?_⟩
 ·obtain ⟨i,hi'⟩:=List.mem_iff_getElem?.1 hr
  rw [hf i] at hi'
  exact M.typ r (List.mem_of_getElem? hi')
 ·have hr':=hr
  rw [hf i] at hr'
  refine Kd.sJ (M.owns (f i) r hr') (fun k hk j s hs hj => ?_)
  have hs':=hs
  rw [hf j] at hs'
  exact hk (f j) s hs' (fun he => hj (hi j i (by rw [hs]; rfl) (by rw [hr]; rfl) he))
end
end Go.Proofs.YtdbpglhdicmhhaaGreatDoor.iM
end

section
namespace Go.Proofs.YtdbpglhdicmhhaaGreatDoor.qp
open Go.RowKit Go.Proofs.YtdbpglhdicmhhaaGreatDoorW.aI Go.Proofs.YtdbpglhdicmhhaaGreatDoorW.aX Go.Proofs.YtdbpglhdicmhhaaGreatDoorW.aZ iM
def Ny : List Int:=[70,73,74,72,71]
structure Std (w : World) : Prop where
 size : 6 < w.heap.size
 max : ∃ m,w.cell? ⟨1,0,none⟩ = some (.int .i64 m)
 aeW : ∃ te pe,w.cell? ⟨5,0,none⟩ = some (.iface te pe)
 aeU : ∃ te pe,w.cell? ⟨6,0,none⟩ = some (.iface te pe)
 ord : ∃ A c,w.cell? ⟨0,0,none⟩ = some (.slice A 5 c) ∧ 5 ≤ c ∧ Kd.C (Kd.int .i64) w A 5 Ny
theorem Std.below {w W : World} (h : Std w) (hb : Below w.heap.size w W) : Std W:=by
 have hc : ∀ a : Addr,a.block ≤ 6 → W.cell? a = w.cell? a:=fun a ha => hb.cell (Nat.lt_of_le_of_lt ha h.size)
 refine ⟨Nat.lt_of_lt_of_le h.size hb.size,?_,?_,?_,?_⟩
 ·obtain ⟨m,hm⟩:=h.max; exact ⟨m,(hc _ (by decide)).trans hm⟩
 ·obtain ⟨m,p,hm⟩:=h.aeW; exact ⟨m,p,(hc _ (by decide)).trans hm⟩
 ·obtain ⟨m,p,hm⟩:=h.aeU; exact ⟨m,p,(hc _ (by decide)).trans hm⟩
 ·obtain ⟨A,c,hm,h5,hC⟩:=h.ord; exact ⟨A,c,(hc _ (by decide)).trans hm,h5,Kd.uF hC hb⟩
def TB (w : World) : Prop := Lib.TabBelow Tryz.prog w.heap.size w "internal/strconv.uint64pow10" .u64 Lib.pow10Tab
theorem Fv {w W : World} (h : TB w) (hb : Below w.heap.size w W) : TB W:=fun w' hb' => h w' (bP hb hb')
end Go.Proofs.YtdbpglhdicmhhaaGreatDoor.qp
end

section
namespace Go.Proofs.YtdbpglhdicmhhaaGreatDoor.Laid
open Go.RowKit
def Af (w : World) : Prop:=qp.Std w ∧ qp.TB w
theorem Af.below {w w1 : World} (h : Af w) (hb : Below w.heap.size w w1) : Af w1:=⟨qp.Std.below h.1 hb,qp.Fv h.2 hb⟩
end Go.Proofs.YtdbpglhdicmhhaaGreatDoor.Laid
end

section
namespace Go.Proofs.YtdbpglhdicmhhaaGreatDoorW.aX
open Go.Proofs.YtdbpglhdicmhhaaGreatDoorW.aI (ah)
def CV (md : Region.Mode) (o : Oper) : List Nat:=(o.after.toList.filter (fun e => Region.binds md e)).map (fun e => e.on)
def KY (md : Region.Mode) (ops : Array Oper) (i : Nat) (oi : Oper) : List Nat:=(List.range ops.size).filter fun j => !(j == i) && match ops[j]? with
 | some oj => !(oj.after.any (fun e => Region.binds md e && e.on == i) || oi.apart ops oj)
 | none => false
def wZ (md : Region.Mode) (ops : Array Oper) : Bool × List (List Nat × List Nat):=(Region.noSelect ops,(List.range ops.size).map fun i => match ops[i]? with
 | some o => (CV md o,KY md ops i o)
 | none => ([],[]))
def zZ (T : List (List Nat × List Nat)) (l : List Bool) (i : Nat) : Bool:=!l.getD i true && match T[i]? with
 | some r => r.1.all (fun j => l.getD j false)
 | none => false
def F9 (T : List (List Nat × List Nat)) (l : List Bool) : List Nat:=(List.range T.length).filter (zZ T l)
def OV (T : List (List Nat × List Nat)) (l : List Bool) (i : Nat) : Bool:=match T[i]? with
 | some r => r.2.all (fun j => l.getD j true)
 | none => false
def Ho (T : List (List Nat × List Nat)) (l : List Bool) : Bool:=(List.range T.length).all fun j => !l.getD j false || match T[j]? with
 | some r => r.1.all (fun k => l.getD k false)
 | none => true
def F8 (T : List (List Nat × List Nat)) (i : Nat) : Nat → Nat → Bool
 | 0,_ => false
 | fuel + 1,d => match T[d]? with
  | some r => r.1.any fun j => j == i || F8 T i fuel j
  | none => false
def lastT (T : List (List Nat × List Nat)) (l : List Bool) (ds : List Nat) (i : Nat) : Bool:=ds.all fun d => l.getD d true || F8 T i T.length d
section
variable {md : Region.Mode} {ops : Array Oper} {T : Bool × List (List Nat × List Nat)} {l l' li lj lk : Array Bool} {ds : List Nat} {i j k : Nat}
theorem gd (l : Array Bool) (j : Nat) (b : Bool) : l.getD j b = l.toList.getD j b:=by simp [Array.getD_eq_getD_getElem?,List.getD_eq_getElem?_getD]
theorem Kv (o : Oper) (p : Nat → Bool) : o.after.all (fun e => !Region.binds md e || p e.on) = (CV md o).all p:=by
 unfold CV
 rw [← Array.all_toList]
 induction o.after.toList with
 | nil => rfl
 | cons e r ih =>
  rw [List.all_cons,ih,List.filter_cons]
  cases h : Region.binds md e <;> simp
theorem UU (o : Oper) (p : Nat → Bool) : o.after.any (fun e => Region.binds md e && p e.on) = (CV md o).any p:=by
 unfold CV
 rw [← Array.any_toList]
 induction o.after.toList with
 | nil => rfl
 | cons e r ih =>
  rw [List.any_cons,ih,List.filter_cons]
  cases h : Region.binds md e <;> simp
theorem Ad : (wZ md ops).2.length = ops.size:=by simp [wZ]
theorem C9 {o : Oper} (h : ops[i]? = some o) : (wZ md ops).2[i]? = some (CV md o,KY md ops i o):=by
 have hi:=(Array.getElem?_eq_some_iff.1 h).1
 unfold wZ
 rw [List.getElem?_map,List.getElem?_range hi,Option.map_some,h]
theorem CZ (h : ops[i]? = none) : (wZ md ops).2[i]? = none:=by
 have hi : ops.size ≤ i:=Array.getElem?_eq_none_iff.1 h
 exact List.getElem?_eq_none (by rw [Ad]; exact hi)
theorem Ro : zZ (wZ md ops).2 l.toList i = (!l.getD i true && ((ops[i]?).map (·.after.all fun e => !Region.binds md e || l.getD e.on false)).getD false):=by
 unfold zZ
 rw [gd]
 cases h : ops[i]? with
 | none => rw [CZ h]; rfl
 | some o =>
  rw [C9 h]
  simp only [Option.map_some,Option.getD_some]
  rw [← Kv]
  simp only [gd]
theorem ready_eq : Region.ready md ops l = F9 (wZ md ops).2 l.toList:=by
 unfold Region.ready F9
 rw [Ad]
 refine List.filter_congr (fun i _ => ?_)
 rw [Ro]
theorem free_eq : Region.free md ops l i = OV (wZ md ops).2 l.toList i:=by
 unfold Region.free OV
 cases h : ops[i]? with
 | none => rw [CZ h]
 | some oi =>
  rw [C9 h]
  simp only [KY]
  rw [List.all_filter]
  congr 1
  funext j
  rw [gd]
  cases hj : ops[j]? with
  | none => cases (j == i) <;> cases (l.toList.getD j true) <;> simp
  | some oj =>
   cases (j == i) <;> cases (l.toList.getD j true) <;> cases (oj.after.any (fun e => Region.binds md e && e.on == i) || oi.apart ops oj) <;> simp_all
theorem UC : Region.tH md ops l = Ho (wZ md ops).2 l.toList:=by
 unfold Region.tH Ho
 rw [Ad]
 congr 1
 funext j
 rw [gd]
 cases h : ops[j]? with
 | none => rw [CZ h]
 | some o =>
  rw [C9 h]
  simp only
  rw [← Kv]
  simp only [gd]
theorem reach_eq : ∀ (fuel d : Nat),Region.wO md ops i fuel d = F8 (wZ md ops).2 i fuel d
 | 0,_ => rfl
 | fuel + 1,d => by
  unfold Region.wO F8
  cases h : ops[d]? with
  | none => rw [CZ h]
  | some o =>
   rw [C9 h]
   simp only
   rw [← UU]
   congr 1
   funext e
   rw [reach_eq fuel]
theorem ZT : Region.lastB md ops l ds i = lastT (wZ md ops).2 l.toList ds i:=by
 unfold Region.lastB lastT
 rw [Ad]
 congr 1
 funext d
 rw [gd,reach_eq]
theorem GL (h : zZ T.2 l.toList i = true) (hT : wZ md ops = T) : (Region.ready md ops l).contains i = true:=by
 subst hT
 rw [ready_eq]
 unfold F9
 rw [List.contains_iff_mem,List.mem_filter,List.mem_range]
 refine ⟨?_,h⟩
 unfold zZ at h
 rw [Bool.and_eq_true] at h
 cases hq : (wZ md ops).2[i]? with
 | none => rw [hq] at h; simp at h
 | some r => exact (List.getElem?_eq_some_iff.1 hq).1
theorem JA (h : (l.toList.set i true == l'.toList) = true) : (l.setIfInBounds i true == l') = true:=by
 rw [beq_iff_eq] at h ⊢
 apply Array.ext'
 rw [Array.toList_setIfInBounds]
 exact h
def aeL (T : Bool × List (List Nat × List Nat)) (l l' : List Bool) (i : Nat) : Bool:=T.1 && OV T.2 l i && zZ T.2 l i && (l.set i true == l')
theorem qo (hT : wZ md ops = T) (h : aeL T l.toList l'.toList i = true) : YG md ops l l' i = true:=by
 simp only [aeL,Bool.and_eq_true] at h
 obtain ⟨⟨⟨h1,h2⟩,h3⟩,h4⟩:=h
 have h5:=GL h3 hT
 have h6:=JA h4
 subst hT
 simp only [YG,Bool.and_eq_true]
 exact ⟨⟨⟨h1,by rw [free_eq]; exact h2⟩,h5⟩,h6⟩
def X7 (T : Bool × List (List Nat × List Nat)) (ds : List Nat) (l l' : List Bool) (i : Nat) : Bool:=T.1 && OV T.2 l i && zZ T.2 l i && Ho T.2 l && lastT T.2 l ds i && (l.set i true == l')
theorem aae (hT : wZ md ops = T) (h : X7 T ds l.toList l'.toList i = true) : takeB md ops ds l l' i = true:=by
 simp only [X7,Bool.and_eq_true] at h
 obtain ⟨⟨⟨⟨⟨h1,h2⟩,h3⟩,h4⟩,h5⟩,h6⟩:=h
 have h7:=GL h3 hT
 have h8:=JA h6
 subst hT
 simp only [takeB,Bool.and_eq_true]
 exact ⟨⟨⟨⟨⟨h1,by rw [free_eq]; exact h2⟩,h7⟩,by rw [UC]; exact h4⟩,by rw [ZT]; exact h5⟩,h8⟩
theorem Cb (hT : wZ md ops = T) (h : (F9 T.2 l.toList == [i] && l.toList.set i true == l'.toList) = true) : NM md ops l l' i = true:=by
 simp only [Bool.and_eq_true] at h
 obtain ⟨h1,h2⟩:=h
 subst hT
 simp only [NM,Bool.and_eq_true]
 exact ⟨by rw [ready_eq]; exact h1,JA h2⟩
theorem X9 (hT : wZ md ops = T) (h : (F9 T.2 l.toList == [i,j] && l.toList.set i true == li.toList && l.toList.set j true == lj.toList) = true) : (Region.ready md ops l == [i,j] && l.setIfInBounds i true == li && l.setIfInBounds j true == lj) = true:=by
 simp only [Bool.and_eq_true] at h ⊢
 obtain ⟨⟨h1,h2⟩,h3⟩:=h
 subst hT
 exact ⟨⟨by rw [ready_eq]; exact h1,JA h2⟩,JA h3⟩
theorem Ll (hT : wZ md ops = T) (h : (F9 T.2 l.toList == []) = true) : (Region.ready md ops l == []) = true:=by
 subst hT
 rw [ready_eq]
 exact h
def upM (B : List Nat) (d : Nat) : List Nat → Nat
 | [] => 0
 | n :: r => (2 ^ n ||| (if n < d then B.getD n 0 else 0)) ||| upM B d r
def BD (T : List (List Nat × List Nat)) (B : List Nat) : Bool:=(List.range T.length).all fun d => match T[d]? with
 | some r => (B.getD d 0 ||| upM B d r.1) == upM B d r.1
 | none => false
theorem Ub {B : List Nat} {d i : Nat} : ∀ {ns : List Nat},(upM B d ns).testBit i = true → ∃ n ∈ ns,n = i ∨ (n < d ∧ (B.getD n 0).testBit i = true)
 | [],h => by simp [upM] at h
 | n :: r,h => by
  unfold upM at h
  rw [Nat.testBit_or,Nat.testBit_or,Bool.or_eq_true,Bool.or_eq_true] at h
  rcases h with (h | h) | h
  ·rw [Nat.testBit_two_pow] at h
   exact ⟨n,List.mem_cons_self,.inl (by simpa using h)⟩
  ·by_cases hn : n < d
   ·rw [if_pos hn] at h
    exact ⟨n,List.mem_cons_self,.inr ⟨hn,h⟩⟩
   ·rw [if_neg hn] at h
    simp at h
  ·obtain ⟨m,hm,h2⟩:=Ub h
   exact ⟨m,List.mem_cons_of_mem _ hm,h2⟩
theorem KE {T : List (List Nat × List Nat)} {B : List Nat} (hB : BD T B = true) : ∀ (fuel d : Nat),d < fuel → d < T.length → (B.getD d 0).testBit i = true → F8 T i fuel d = true
 | 0,d,h,_,_ => by omega
 | fuel + 1,d,h,hd,hb => by
  have h1:=List.all_eq_true.1 hB d (List.mem_range.2 hd)
  cases hr : T[d]? with
  | none => rw [hr] at h1; simp at h1
  | some r =>
   rw [hr] at h1
   simp only [beq_iff_eq] at h1
   have h2 : (upM B d r.1).testBit i = true:=by rw [← h1,Nat.testBit_or,hb,Bool.true_or]
   obtain ⟨n,hn,h3⟩:=Ub h2
   unfold F8
   rw [hr]
   simp only
   rw [List.any_eq_true]
   refine ⟨n,hn,?_⟩
   rcases h3 with rfl | ⟨h4,h5⟩
   ·simp
   ·rw [KE hB fuel n (by omega) (by omega) h5,Bool.or_true]
def aa1 (T : List (List Nat × List Nat)) (B : List Nat) (l : List Bool) (ds : List Nat) (i : Nat) : Bool:=ds.all fun d => l.getD d true || (decide (d < T.length) && (B.getD d 0).testBit i)
def aa5 (T : Bool × List (List Nat × List Nat)) (B : List Nat) (ds : List Nat) (l l' : List Bool) (i : Nat) : Bool:=T.1 && OV T.2 l i && zZ T.2 l i && Ho T.2 l && aa1 T.2 B l ds i && (l.set i true == l')
theorem Fq {B : List Nat} (hT : wZ md ops = T) (hB : BD T.2 B = true) (h : aa5 T B ds l.toList l'.toList i = true) : takeB md ops ds l l' i = true:=by
 refine aae hT ?_
 simp only [aa5,X7,Bool.and_eq_true] at h ⊢
 obtain ⟨⟨⟨⟨⟨h1,h2⟩,h3⟩,h4⟩,h5⟩,h6⟩:=h
 refine ⟨⟨⟨⟨⟨h1,h2⟩,h3⟩,h4⟩,?_⟩,h6⟩
 unfold aa1 at h5
 unfold lastT
 rw [List.all_eq_true] at h5 ⊢
 intro d hd
 have h7:=h5 d hd
 rw [Bool.or_eq_true,Bool.and_eq_true,decide_eq_true_eq] at h7
 rcases h7 with h7 | ⟨h8,h9⟩
 ·rw [h7,Bool.true_or]
 ·rw [KE hB _ d h8 h8 h9,Bool.or_true]
theorem Gj {P : Program} {Q : Exit → Act → World → Prop} {S : World → Prop} {n : Nat} {a : Act} {w : World} {B : List Nat} (hT : wZ md ops = T) (hB : BD T.2 B = true) (h : ah (wZ md ops = T) → ah (BD T.2 B = true) → bJ P md ops Q S ds n l a w) : bJ P md ops Q S ds n l a w:=h ⟨hT⟩ ⟨hB⟩
end
def Dy : Code → Nat → Option (Array Oper)
 | .region id ops _,k => if id == k then some ops else none
 | .seq a b,k => match Dy a k with
  | some o => some o
  | none => Dy b k
 | .cond _ a b,k => match Dy a k with
  | some o => some o
  | none => Dy b k
 | .block _ c,k => Dy c k
 | .loop c,k => Dy c k
 | .scope c,k => Dy c k
 | .rangeFunc _ _ a b,k => match Dy a k with
  | some o => some o
  | none => Dy b k
 | _,_ => none
def opsOf (f : Func) (k : Nat) : Array Oper:=((f.body.bind fun c => Dy c k)).getD #[]
end Go.Proofs.YtdbpglhdicmhhaaGreatDoorW.aX
end

section
namespace Go.Proofs.YtdbpglhdicmhhaaGreatDoorW.aX
section
variable {P : Program} {ops : Array Oper} {Q : Exit → Act → World → Prop} {md : Region.Mode} {S : World → Prop} {ds : List Nat} {T : Bool × List (List Nat × List Nat)}
end
end Go.Proofs.YtdbpglhdicmhhaaGreatDoorW.aX
end

section
namespace Go.Proofs.YtdbpglhdicmhhaaGreatDoorW.aI
open Go.RowKit
namespace Kd
section
variable {α : Type} {d : Kd α} {W : World} {g n : Nat} {S ok : Nat → Prop} {A : Option Addr} {ad : Addr} {xs : List α}
end
end Kd
end Go.Proofs.YtdbpglhdicmhhaaGreatDoorW.aI
end

section
namespace Go.Proofs.YtdbpglhdicmhhaaGreatDoorW.aI
open Go.RowKit
section
variable {w w' u : World} {m B g : Nat} {o : Obj} {row : Option Nat} {S : Nat → Prop} {a : Addr} {v : Value}
end
namespace Kd
section
variable {α : Type} {d : Kd α} {e base n m : Nat} {ok : Nat → Prop} {w w' : World} {v : Value} {A : Option Addr} {xs : List α}
end
end Kd
end Go.Proofs.YtdbpglhdicmhhaaGreatDoorW.aI
end

section
namespace Go.Proofs.YtdbpglhdicmhhaaGreatDoorW.aI
open Go.RowKit
section
variable {P : Program} {d : Nat} {xs ys : Array Value} {f : Field} {fs : List Field} {a b : Value} {r s : Bool} {w : World}
end
end Go.Proofs.YtdbpglhdicmhhaaGreatDoorW.aI
end

section
namespace Go.Proofs.YtdbpglhdicmhhaaGreatDoorW.aI
theorem gJ.one {α : Type} {R : α → List Value → Prop} {ps : List α} {cs : List Value} {p : α} {v : Value} (hp : R p [v]) (h : gJ R 1 ps cs) : gJ R 1 (p :: ps) (v :: cs):=by
 refine ⟨by simp [h.1],fun j q hq => ?_⟩
 cases j with
 | zero =>
  simp only [List.getElem?_cons_zero,Option.some.injEq] at hq
  subst hq
  simpa using hp
 | succ j =>
  simp only [List.getElem?_cons_succ] at hq
  have h1:=h.2 j q hq
  simpa [Nat.mul_one] using h1
theorem gJ.front {α : Type} {R : α → List Value → Prop} {size : Nat} {ps : List α} {cs c all : List Value} {p : α} (hp : R p c) (hc : c.length = size) (h : gJ R size ps cs) (ha : c ++ cs = all) : gJ R size (p :: ps) all:=by
 subst ha
 refine ⟨by rw [List.length_append,hc,h.1,List.length_cons,Nat.succ_mul,Nat.add_comm],fun j q hq => ?_⟩
 cases j with
 | zero =>
  simp only [List.getElem?_cons_zero,Option.some.injEq] at hq
  subst hq
  rw [Nat.zero_mul,List.drop_zero,List.take_append_of_le_length (by omega),List.take_of_length_le (by omega)]
  exact hp
 | succ j =>
  simp only [List.getElem?_cons_succ] at hq
  have h1:=h.2 j q hq
  rw [Nat.succ_mul,List.drop_append,List.drop_of_length_le (by rw [hc]; exact Nat.le_add_left _ _),List.nil_append,hc,Nat.add_sub_cancel]
  exact h1
theorem gJ.c2 {α : Type} {R : α → List Value → Prop} {ps : List α} {cs : List Value} {p : α} {va vb : Value} (hp : R p [va,vb]) (h : gJ R 2 ps cs) : gJ R 2 (p :: ps) (va :: vb :: cs):=gJ.front hp rfl h rfl
theorem gJ.c3 {α : Type} {R : α → List Value → Prop} {ps : List α} {cs : List Value} {p : α} {va vb vc : Value} (hp : R p [va,vb,vc]) (h : gJ R 3 ps cs) : gJ R 3 (p :: ps) (va :: vb :: vc :: cs):=gJ.front hp rfl h rfl
theorem gJ.c4 {α : Type} {R : α → List Value → Prop} {ps : List α} {cs : List Value} {p : α} {va vb vc vd : Value} (hp : R p [va,vb,vc,vd]) (h : gJ R 4 ps cs) : gJ R 4 (p :: ps) (va :: vb :: vc :: vd :: cs):=gJ.front hp rfl h rfl
theorem gJ.c5 {α : Type} {R : α → List Value → Prop} {ps : List α} {cs : List Value} {p : α} {va vb vc vd ve : Value} (hp : R p [va,vb,vc,vd,ve]) (h : gJ R 5 ps cs) : gJ R 5 (p :: ps) (va :: vb :: vc :: vd :: ve :: cs):=gJ.front hp rfl h rfl
theorem gJ.c6 {α : Type} {R : α → List Value → Prop} {ps : List α} {cs : List Value} {p : α} {va vb vc vd ve vf : Value} (hp : R p [va,vb,vc,vd,ve,vf]) (h : gJ R 6 ps cs) : gJ R 6 (p :: ps) (va :: vb :: vc :: vd :: ve :: vf :: cs):=gJ.front hp rfl h rfl
theorem gJ.c7 {α : Type} {R : α → List Value → Prop} {ps : List α} {cs : List Value} {p : α} {va vb vc vd ve vf vg : Value} (hp : R p [va,vb,vc,vd,ve,vf,vg]) (h : gJ R 7 ps cs) : gJ R 7 (p :: ps) (va :: vb :: vc :: vd :: ve :: vf :: vg :: cs):=gJ.front hp rfl h rfl
theorem gJ.c8 {α : Type} {R : α → List Value → Prop} {ps : List α} {cs : List Value} {p : α} {va vb vc vd ve vf vg vh : Value} (hp : R p [va,vb,vc,vd,ve,vf,vg,vh]) (h : gJ R 8 ps cs) : gJ R 8 (p :: ps) (va :: vb :: vc :: vd :: ve :: vf :: vg :: vh :: cs):=gJ.front hp rfl h rfl
theorem gJ.c9 {α : Type} {R : α → List Value → Prop} {ps : List α} {cs : List Value} {p : α} {va vb vc vd ve vf vg vh vi : Value} (hp : R p [va,vb,vc,vd,ve,vf,vg,vh,vi]) (h : gJ R 9 ps cs) : gJ R 9 (p :: ps) (va :: vb :: vc :: vd :: ve :: vf :: vg :: vh :: vi :: cs):=gJ.front hp rfl h rfl
theorem gJ.c10 {α : Type} {R : α → List Value → Prop} {ps : List α} {cs : List Value} {p : α} {va vb vc vd ve vf vg vh vi vj : Value} (hp : R p [va,vb,vc,vd,ve,vf,vg,vh,vi,vj]) (h : gJ R 10 ps cs) : gJ R 10 (p :: ps) (va :: vb :: vc :: vd :: ve :: vf :: vg :: vh :: vi :: vj :: cs):=gJ.front hp rfl h rfl
end Go.Proofs.YtdbpglhdicmhhaaGreatDoorW.aI
end

section
namespace Go.Proofs.YtdbpglhdicmhhaaGreatDoorW.aX
def up (b : Nat → Bool) (i : Nat) : Nat → Bool:=fun j => if j = i then true else b j
section
variable {P : Program} {ops : Array Oper} {Q : Exit → Act → World → Prop} {md : Region.Mode} {T : Bool × List (List Nat × List Nat)} {B : List Nat} {O : List Nat} {b : Nat → Bool} {i j n : Nat}
end
end Go.Proofs.YtdbpglhdicmhhaaGreatDoorW.aX
end

section
namespace Go.Proofs.YtdbpglhdicmhhaaGreatDoorW.aI
open Go.RowKit
end Go.Proofs.YtdbpglhdicmhhaaGreatDoorW.aI
namespace Go.Proofs.YtdbpglhdicmhhaaGreatDoorW.aX
section
variable {ops : Array Oper} {a : Act} {o og : Oper} {g : Nat} {t : Tmp} {u : Bool}
end
end Go.Proofs.YtdbpglhdicmhhaaGreatDoorW.aX
end
