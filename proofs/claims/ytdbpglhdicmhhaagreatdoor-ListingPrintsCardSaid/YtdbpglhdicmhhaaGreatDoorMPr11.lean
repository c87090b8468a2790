import Derived.Test.YtdbpglhdicmhhaaGreatDoorMPr10
import Derived.Shelf.Strings.Builder1
import Derived.Shelf.Strconv.Itoa1
import Derived.Shelf.Strconv.Itoa2
import Derived.Shelf.Strconv.Itoa3
import Derived.Test.YtdbpglhdicmhhaaGreatDoorProg
import Derived.Lib.Strings
import Derived.Lib.Slices
import Derived.Lib.Walk
import Derived.Lib.Builder
import Derived.Lib.AppendStr
import Derived.Lib.UnsafeStr
import Derived.Lib.MakeNoZero
import Derived.Lib.Hide
import Derived.Lib.OthersKept
import Derived.WalkKit
import Derived.Laws.Externs
import Derived.Laws.IdiomCopy
import Derived.Laws.BitsLemmas
import Derived.BigCall
import Derived.BigGuard
set_option maxHeartbeats 2000000
set_option maxRecDepth 100000
set_option linter.unusedVariables false
set_option linter.unusedSimpArgs false
section
namespace Go.Proofs.YtdbpglhdicmhhaaGreatDoor.iM
open Go.RowKit Go.Proofs.YtdbpglhdicmhhaaGreatDoorW.aI Go.Proofs.YtdbpglhdicmhhaaGreatDoorW.aX Go.Proofs.YtdbpglhdicmhhaaGreatDoorW.aZ
def Know (K : List (Addr × Value)) (W : World) : Prop:=∀ c ∈ K,W.cell? c.1 = some c.2
theorem Know.below {K : List (Addr × Value)} {w W : World} (h : Know K w) (hb : Below w.heap.size w W) : Know K W:=fun c hc => (hb.cell (World.block_lt_of_cell? w c.1 (h c hc))).trans (h c hc)
section
variable {P : Program} {ops : Array Oper} {md : Region.Mode} {o : Oper} {a : Act} {Q : Exit → Act → World → Prop} {e : List TypeId} {w0 w W : World} {l : List (Nat × Array Value × TypeId)} {K : List (Addr × Value)} {rows : List Row} {fx : List (Nat × Obj)} {fuel : Nat} {listed : Array Bool} {ds : List Nat}
theorem gQ {id : Nat} (ds : List Nat) (K : List (Addr × Value)) (M : ah (bf e w0 W l fx rows)) (hK : Know K W)
  (h : ∀ W',ah (bf e w0 W' l fx rows) → ah (Know K W') → bJ P .any ops (NoPanic Q) (Know K) ds ops.size (Array.replicate ops.size false) a W')
  (hm : P.follows .mixedOrders = true:=by kernel_rfl) : (Code.region id ops true).wp P Q a W:=by
 refine wp_region_noPanic ?_
 have h1 : Know K W.drew:=hK.below (qC (Below.refl _ _))
 exact sQ hm h1 (fun h2 => h _ ⟨M.out.drew⟩ ⟨h1⟩)
theorem kY (i : Nat) (N : Tmp) (u : Value) (HK : ah (Know K w)) (hy : YieldsIf P ops (Know K) o u a)
  (h : bJ P md ops (NoPanic Q) (Know K) ds fuel (listed.setIfInBounds i true) (a.put (some N) u) w) (hoi : ops[i]? = some o) (hN : o.dst = some N)
  (hs : Region.noSelect ops = true) (hf : Region.free md ops listed i = true) (hr : (Region.ready md ops listed).contains i = true) (hc : Region.tH md ops listed = true) (hla : Region.lastB md ops listed ds i = true) : bJ P md ops (NoPanic Q) (Know K) ds (fuel + 1) listed a w :=
 zJ hoi hs hf hr hc hla (fun _ _ _ h => h) hy HK.out (by rw [hN]; exact h)
theorem kE {ty : TypeId} (HK : ah (Know K w)) (i : Nat) (N : Tmp) (k : Nat) {ad : Addr} {u : Value} {p : Tmp}
  (h : bJ P md ops (NoPanic Q) (Know K) ds fuel (listed.setIfInBounds i true) (a.put (some N) u) w)
  (hoi : ops[i]? = some o:=by rfl) (hN : o.dst = some N:=by rfl) (ho : o.op = .load ty (.tmp p):=by rfl) (hw : Region.wanted o (yielded ops a.tmps) = true:=by rfl)
  (hk : K[k]? = some (ad,u):=by rfl) (hx : a.eval (.tmp p) = .pointer (some ad):=by rfl) (hna : ∀ w,(isAgg ty).run P w = .ok false w:=by intro _; kernel_rfl)
  (hs : Region.noSelect ops = true:=by kernel_rfl) (hf : Region.free md ops listed i = true:=by kernel_rfl) (hr : (Region.ready md ops listed).contains i = true:=by kernel_rfl) (hc : Region.tH md ops listed = true:=by kernel_rfl) (hla : Region.lastB md ops listed ds i = true:=by kernel_rfl) : bJ P md ops (NoPanic Q) (Know K) ds (fuel + 1) listed a w :=
 kY i N u HK (.inl ⟨hw,fun w' hw' => Dz ho hx (hw' _ (List.mem_of_getElem? hk)) hna⟩) h hoi hN hs hf hr hc hla
theorem kM {ty : TypeId} {d : TypeDesc} (HK : ah (Know K w)) (i : Nat) (N : Tmp) (g off : Nat) (us : List Value) (hu : P.underlying ty = some d) {p : Tmp}
  (hk : ∀ (j : Nat) (u : Value),us[j]? = some u → ((⟨g,off + j,none⟩ : Addr),u) ∈ K)
  (h : bJ P md ops (NoPanic Q) (Know K) ds fuel (listed.setIfInBounds i true) (a.put (some N) (.agg us.toArray)) w)
  (hoi : ops[i]? = some o:=by rfl) (hN : o.dst = some N:=by rfl) (ho : o.op = .load ty (.tmp p):=by rfl) (hw : Region.wanted o (yielded ops a.tmps) = true:=by rfl)
  (hx : a.eval (.tmp p) = .pointer (some ⟨g,off,none⟩):=by rfl) (hd : d.isRow = true:=by rfl) (hi : (P.info? ty).map (·.size) = some us.length:=by kernel_rfl)
  (hs : Region.noSelect ops = true:=by kernel_rfl) (hf : Region.free md ops listed i = true:=by kernel_rfl) (hr : (Region.ready md ops listed).contains i = true:=by kernel_rfl) (hc : Region.tH md ops listed = true:=by kernel_rfl) (hla : Region.lastB md ops listed ds i = true:=by kernel_rfl) : bJ P md ops (NoPanic Q) (Know K) ds (fuel + 1) listed a w :=
 kY i N _ HK (yieldsIf_load_mid hw ty _ ho g off hx us d (fun w' hw' j u hu' => hw' _ (hk j u hu')) hu hd hi) h hoi hN hs hf hr hc hla
theorem kP {S : World → Prop} (i : Nat) (N : Tmp) (u : Value)
  (h : bJ P md ops (NoPanic Q) S ds fuel (listed.setIfInBounds i true) (a.put (some N) u) w)
  (hoi : ops[i]? = some o:=by rfl) (hN : o.dst = some N:=by rfl) (hw : Region.wanted o (yielded ops a.tmps) = true:=by rfl)
  (hy : ∀ w,(execOp a.eval o).run P w = .ok (.value u) w:=by intro _; first | rfl | (go_simp; done) | (go_simp; rfl))
  (hs : Region.noSelect ops = true:=by kernel_rfl) (hf : Region.free md ops listed i = true:=by kernel_rfl) (hr : (Region.ready md ops listed).contains i = true:=by kernel_rfl) : bJ P md ops (NoPanic Q) S ds (fuel + 1) listed a w :=
 vW hoi (Region.noSelect_spec hs) (fun _ _ _ h => h) fuel listed a w (Region.free_spec hoi hf) (by simpa using hr) (.inl ⟨hw,hy⟩) (by rw [hN]; exact h)
theorem kN {S : World → Prop} (i : Nat) (N : Tmp)
  (h : bJ P md ops (NoPanic Q) S ds fuel (listed.setIfInBounds i true) (a.put (some N) undef) w)
  (hoi : ops[i]? = some o:=by rfl) (hN : o.dst = some N:=by rfl) (hw : Region.wanted o (yielded ops a.tmps) = false:=by rfl)
  (hs : Region.noSelect ops = true:=by kernel_rfl) (hf : Region.free md ops listed i = true:=by kernel_rfl) (hr : (Region.ready md ops listed).contains i = true:=by kernel_rfl) : bJ P md ops (NoPanic Q) S ds (fuel + 1) listed a w :=
 vW hoi (Region.noSelect_spec hs) (fun _ _ _ h => h) fuel listed a w (Region.free_spec hoi hf) (by simpa using hr) (.inr ⟨hw,rfl⟩) (by rw [hN]; exact h)
theorem kR {S : World → Prop} (rs : List Nat) (h : aK P md ops Q S ds fuel listed a w rs) (hr : Region.ready md ops listed = rs:=by kernel_rfl) (hne : rs ≠ []:=by simp) : bJ P md ops Q S ds (fuel + 1) listed a w :=
 tJ hr hne h
theorem iG {S : World → Prop} (h : Q .normal a w) (hr : Region.ready md ops listed = []:=by kernel_rfl) : bJ P md ops (NoPanic Q) S ds fuel listed a w:=zI hr (NoPanic.normal h) _
theorem kBs (HK : ah (Know K w)) (i : Nat) (N : Tmp) (cs : List Value) (t : TypeId) {rs : List Nat}
  (h : ah (Know K (w.alloc (.cells cs.toArray t))) → bJ P md ops Q (Know K) ds fuel (listed.setIfInBounds i true) (a.put (some N) (.slice (some ⟨w.heap.size,0,none⟩) 1 1)) (w.alloc (.cells cs.toArray t)))
  (hrest : aK P md ops Q (Know K) ds fuel listed a w rs)
  (hoi : ops[i]? = some o:=by rfl) (hN : o.dst = some N:=by rfl) (hw : Region.wanted o (yielded ops a.tmps) = true:=by rfl) (hd : i ∉ ds:=by decide)
  (hrun : (execOp a.eval o).run P w = .ok (.value (.slice (some ⟨w.heap.size,0,none⟩) 1 1)) (w.alloc (.cells cs.toArray t)):=by first | (go_simp; done) | (go_simp; rfl)) : aK P md ops Q (Know K) ds fuel listed a w (i :: rs):=by
 have hk1:=HK.out.below (ak (Below.refl _ _) (.cells cs.toArray t))
 refine aK.cons hoi hd (fun K' hK' => ?_) hrest
 rw [if_pos hw]
 unfold Oper.wp
 rw [hrun]
 show K' (a.put o.dst _) _
 rw [hN]
 exact hK'.out _ _ hk1 (fun _ => h ⟨hk1⟩)
theorem kAp {S : World → Prop} {α : Type} {d : Kd α} {te : TypeId} {v : Value} {xs : List α} (M : ah (bf e w0 w l fx (⟨d,te,v,xs⟩ :: rows))) (i : Nat) (N : Tmp) (p : α) (cs : List Value) (z : Value) (bytes : Nat) {rs : List Nat} (acN : (xs.length + 1) * bytes ≤ 140737488355328)
  (h : ∀ v' w1,ah (bf e w0 w1 l fx (⟨d,te,v',xs ++ [p]⟩ :: rows)) → bJ P md ops Q S ds fuel (listed.setIfInBounds i true) (a.put (some N) v') w1)
  (hp : d.M w w0.heap.size (fun _ => False) p cs) (hz : z.cells.size = d.sz) (hs0 : 0 < d.sz)
  (hrest : aK P md ops Q S ds fuel listed a (w.alloc (.cells cs.toArray te)) rs)
  {s x : Operand} {t : TypeId} (hoi : ops[i]? = some o:=by rfl) (hN : o.dst = some N:=by rfl) (ho : o.op = .call { callee:=.builtin .append,args:=#[s,x],argTypes:=#[t,t] }:=by rfl) (hw : Region.wanted o (yielded ops a.tmps) = true:=by rfl) (hd : i ∈ ds:=by decide)
  (ht : P.underlying t = some (.slice te):=by kernel_rfl) (hinfo : (P.info? te).map (fun i => (i.zero,i.size,i.bytes)) = some (some z,d.sz,bytes):=by kernel_rfl)
  (hb0 : 0 < bytes:=by decide) (hs : a.eval s = v:=by rfl) (hx : a.eval x = .slice (some ⟨w.heap.size,0,none⟩) 1 1:=by rfl) : aK P md ops Q S ds fuel listed a (w.alloc (.cells cs.toArray te)) (i :: rs):=by
 have M0:=M.out.mem
 refine aK.xB hoi hd (fun K' hK' => ?_) hrest
 refine Kd.Du d (w0:=w0) w0.heap.size hw s x t te z bytes ho ht hinfo hz hs0 hb0 v xs p cs (PE (⟨d,te,v,xs⟩ :: rows) 0) (fun _ => False) hs hx hp (fun _ hk => hk.elim)
  (fun k hk => M0.Ns 0 k hk) (M0.owns 0 _ rfl) M0.below M0.below.size acN (fun v1 w1 hR hB hg hat => ?_)
 have M1:=M.out.other (M0.written hB hg hR hat) (fun q y hy => hg.block y.1 (jk (M.out.fix q y hy).1) (M.out.F5 0 q rfl hy))
 rw [hN]
 exact hK'.out _ _ (h v1 w1 ⟨M1⟩)
theorem kC {S : World → Prop} (M : ah (bf e w0 w l fx rows)) (i : Nat) (t : TypeId) (p : Tmp) (k j : Nat) (u : Value) (new : Array Value) {g : Nat} {cs : Array Value} {tb : TypeId} {x : Operand} {rs : List Nat}
  (h : ∀ w',ah (bf e w0 w' (l.set k (g,new,tb)) fx rows) → bJ P md ops Q S ds fuel (listed.setIfInBounds i true) a w')
  (hk : l[k]? = some (g,cs,tb)) (hj : (cs[j]?).isSome = true) (h1 : u.oneCell' = true) (hnew : cs.setIfInBounds j u = new)
  (hrest : aK P md ops Q S ds fuel listed a w rs)
  (hoi : ops[i]? = some o:=by rfl) (hn : o.dst = none:=by rfl) (hw : Region.wanted o (yielded ops a.tmps) = true:=by rfl) (hd : i ∈ ds:=by decide) (ho : o.op = .store t (.tmp p) x:=by rfl)
  (hx : a.eval (.tmp p) = .pointer (some ⟨g,j,none⟩):=by rfl) (hv : a.eval x = u:=by rfl) (hs : (P.info? t).map (·.size) = some 1:=by kernel_rfl) : aK P md ops Q S ds fuel listed a w (i :: rs):=by
 refine aK.xB hoi hd (fun K' hK' => ?_) hrest
 rw [if_pos hw]
 unfold Oper.wp
 rw [OH ho g j cs u hx hv (M.out.mem.at k hk) hj hs h1]
 show K' (a.put o.dst undef) _
 rw [hn]
 have M1:=M.out.mem.set k hk j u
 rw [hnew] at M1
 have hkb:=((eu.refl w g none).set_ j u)
 exact hK'.out _ _ (h _ ⟨M.out.other M1 (fun q y hy => hkb.2 y.1 (jk (M.out.fix q y hy).1) (M.out.FZ k q hk hy) (by simp))⟩)
theorem Xo {S : World → Prop} {sz : Nat} {te : TypeId} {g n c : Nat} {xs : List (List Value)} (M : ah (bf e w0 w l fx (⟨Kd.raw sz,te,.slice (some ⟨g,0,none⟩) n c,xs⟩ :: rows))) (i : Nat) (t : TypeId) (p : Operand) (ix j : Nat) (u : Value) (seg x0 : List Value) {rs : List Nat} (hi : ix < n) (hx0 : xs[ix]? = some x0)
  (h : ∀ w',ah (bf e w0 w' l fx (⟨Kd.raw sz,te,.slice (some ⟨g,0,none⟩) n c,xs.set ix (x0.take j ++ seg ++ x0.drop (j + seg.length))⟩ :: rows)) → bJ P md ops Q S ds fuel (listed.setIfInBounds i true) a w')
  (hu : u.cells.toList = seg) (h1 : ∀ q ∈ seg,q.oneCell' = true) (hj : j + seg.length ≤ sz)
  (hrest : aK P md ops Q S ds fuel listed a w rs)
  {x : Operand} {off : Nat} (hoff : off = ix * sz + j) (hoi : ops[i]? = some o:=by rfl) (hn : o.dst = none:=by rfl) (hw : Region.wanted o (yielded ops a.tmps) = true:=by rfl) (hd : i ∈ ds:=by decide) (ho : o.op = .store t p x:=by rfl)
  (hx : a.eval p = .pointer (some ⟨g,off,none⟩):=by rfl) (hv : a.eval x = u:=by rfl) (hs : (P.info? t).map (·.size) = some seg.length:=by kernel_rfl) : aK P md ops Q S ds fuel listed a w (i :: rs):=by
 have M0:=M.out.mem
 have hR:=M0.owns 0 _ rfl
 obtain ⟨c0,hcl,hM,hcc,_⟩:=Kd.FI hR [] (ix : Int) (by omega) (by exact_mod_cast hi)
 rw [Int.toNat_natCast] at hM hcc
 have Nh : xs.getD ix [] = x0:=by rw [List.getD_eq_getElem?_getD,hx0]; rfl
 obtain ⟨e1,e2,e3⟩:=hM
 rw [Nh] at e1
 subst e1
 have hlen : c0.length = sz:=e2
 have hseg:=Kd.VH hR (ix : Int) (by omega) (by exact_mod_cast hi) (seg:=seg) (j:=j) hcl (by rw [Int.toNat_natCast]; exact hcc) hj (x':=c0.take j ++ seg ++ c0.drop (j + seg.length)) (Df:=fun _ => False)
  ⟨rfl,by simp only [List.length_append,List.length_take,List.length_drop]; omega,fun q hq => by
   rcases List.mem_append.1 hq with hq | hq
   ·rcases List.mem_append.1 hq with hq | hq
    ·exact e3 q (List.mem_of_mem_take hq)
    ·exact h1 q hq
   ·exact e3 q (List.mem_of_mem_drop hq)⟩ (fun _ hk => hk.elim)
 obtain ⟨hR1,hg⟩:=hseg
 rw [Int.toNat_natCast] at hR1 hg
 have hbg : w0.heap.size ≤ g:=Kd.KR hR g rfl
 obtain ⟨inner,hown⟩:=Kd.J4 hR
 have hrun : (Instr.storeAt t (.pointer (some ⟨g,ix * sz + j,none⟩)) u).run P w = .ok () (w.setCells g (ix * sz + j) seg):=by
  have hnx : n = xs.length:=(Kd.sV hR).1
  rcases hown.2 with ⟨hv',_⟩ | ⟨g',cap',cur,hv',hb,hh,hnc,hcm,hcs,_⟩
  ·cases hv'
  injection hv' with ha _ hc
  injection ha with ha
  injection ha with hg'
  subst hg'; subst hc
  refine Aw t u seg hh hu hs ?_ h1
  have h2 : ix * sz + sz ≤ n * sz:=by rw [← Nat.succ_mul]; exact Nat.mul_le_mul_right _ hi
  have h3 : n * sz ≤ c * sz:=Nat.mul_le_mul_right _ (by have:=hnc; omega)
  have h4 : c * sz = cur.size:=hcs.symm
  omega
 have hB : Below w0.heap.size w0 (w.setCells g (ix * sz + j) seg):=uT g hbg seg _ w M0.below
 refine aK.xB hoi hd (fun K' hK' => ?_) hrest
 rw [if_pos hw]
 unfold Oper.wp execOp
 subst hoff
 simp only [ho,hx,hv,Sem.run_bind,Sem.run_pure,Result.andThen_ok,hrun]
 show K' (a.put o.dst undef) _
 rw [hn]
 exact hK'.out _ _ (h _ ⟨M.out.other (M0.written hB hg hR1 (.inl rfl)) (fun q y hy => hg.block y.1 (jk (M.out.fix q y hy).1) (M.out.F5 0 q rfl hy))⟩)
end
section
variable {P : Program} {ops : Array Oper} {rest : List Oper} {o : Oper} {a : Act} {Q : Exit → Act → World → Prop} {es : List TypeId} {w0 W W1 : World} {l : List (Nat × Array Value × TypeId)} {rows : List Row} {fx : List (Nat × Obj)}
theorem bf.row {α : Type} {d : Kd α} {e : TypeId} {v : Value} {xs : List α} (M : bf es w0 W l fx rows) (hb : Below W.heap.size W W1) (h : d.R e W1 W.heap.size (fun _ => True) v xs) (ht : ∀ q,q ∈ e :: d.E → q ∈ es) : bf es w0 W1 l fx (⟨d,e,v,xs⟩ :: rows) :=
 ⟨M.mem.row hb h ht,(M.call hb).fix,M.part⟩
theorem fBr (M : ah (bf es w0 W l fx rows)) (N : Tmp) (cs : List Value) (t : TypeId) (h1 : ∀ u ∈ cs,u.oneCell' = true) (ht : t ∈ es)
  (h : ∀ g w1,ah (bf es w0 w1 l fx (⟨Kd.raw cs.length,t,.slice (some ⟨g,0,none⟩) 1 1,[cs]⟩ :: rows)) → wpList P ops Q rest (a.put o.dst (.pointer (some ⟨g,0,none⟩))) w1)
  (hd : o.dst = some N:=by with_reducible rfl) (hgd : o.guard = none:=by with_reducible rfl)
  (hr : (execOp a.eval o).run P W = .ok (.value (.pointer (some ⟨W.heap.size,0,none⟩))) (W.alloc (.cells cs.toArray t (0,0))):=by first | (go_simp; done) | (go_simp; rfl)) :
  wpList P ops Q (o :: rest) a W:=by
 refine Kd.vK hgd hr (h _ _ ⟨M.out.row (ak (Below.refl _ _) _) ⟨fun _ _ => trivial,cs,?_,?_⟩ (fun q hq => ?_)⟩)
 ·have h2:=World.ownsRow_lit (base:=W.heap.size) (e:=t) (size:=cs.length) W cs.toArray 1 (Nat.le_refl _) (by decide) (by simp)
  have h3 : (W.alloc (.cells cs.toArray t)).ownsRow W.heap.size t cs.length (.slice (some ⟨W.heap.size,0,none⟩) 1 1) 1 cs:=by simpa using h2
  exact h3
 ·refine ⟨by show cs.length = [cs].length * cs.length; simp,fun j p hj => ?_⟩
  cases j with
  | zero =>
   obtain rfl : cs = p:=by simpa using hj
   have e1 : (cs.drop (0 * (Kd.raw cs.length).sz)).take (Kd.raw cs.length).sz = cs:=by show (cs.drop (0 * cs.length)).take cs.length = cs; simp
   rw [e1]
   exact ⟨rfl,rfl,h1⟩
  | succ j => simp at hj
 ·rcases List.mem_cons.1 hq with rfl | hq
  ·exact ht
  ·cases hq
section
variable {ops : Array Oper} {md : Region.Mode} {w : World} {K : List (Addr × Value)} {fuel : Nat} {listed : Array Bool} {ds : List Nat}
theorem kBr (M : ah (bf es w0 w l fx rows)) (HK : ah (Know K w)) (i : Nat) (N : Tmp) (cs : List Value) (t : TypeId) (h1 : ∀ u ∈ cs,u.oneCell' = true) (ht : t ∈ es) {rs : List Nat}
  (h : ∀ g w1,ah (bf es w0 w1 l fx (⟨Kd.raw cs.length,t,.slice (some ⟨g,0,none⟩) 1 1,[cs]⟩ :: rows)) → ah (Know K w1) → bJ P md ops Q (Know K) ds fuel (listed.setIfInBounds i true) (a.put (some N) (.pointer (some ⟨g,0,none⟩))) w1)
  (hrest : aK P md ops Q (Know K) ds fuel listed a w rs)
  (hoi : ops[i]? = some o:=by rfl) (hN : o.dst = some N:=by rfl) (hw : Region.wanted o (yielded ops a.tmps) = true:=by rfl) (hd : i ∉ ds:=by decide)
  (hrun : (execOp a.eval o).run P w = .ok (.value (.pointer (some ⟨w.heap.size,0,none⟩))) (w.alloc (.cells cs.toArray t (0,0))):=by first | (go_simp; done) | (go_simp; rfl)) : aK P md ops Q (Know K) ds fuel listed a w (i :: rs):=by
 have hb:=ak (Below.refl w.heap.size w) (.cells cs.toArray t (0,0))
 have hk1:=HK.out.below hb
 have M1 : bf es w0 (w.alloc (.cells cs.toArray t (0,0))) l fx (⟨Kd.raw cs.length,t,.slice (some ⟨w.heap.size,0,none⟩) 1 1,[cs]⟩ :: rows):=by
  refine M.out.row hb ⟨fun _ _ => trivial,cs,?_,?_⟩ (fun q hq => ?_)
  ·have h2:=World.ownsRow_lit (base:=w.heap.size) (e:=t) (size:=cs.length) w cs.toArray 1 (Nat.le_refl _) (by decide) (by simp)
   have h3 : (w.alloc (.cells cs.toArray t)).ownsRow w.heap.size t cs.length (.slice (some ⟨w.heap.size,0,none⟩) 1 1) 1 cs:=by simpa using h2
   exact h3
  ·refine ⟨by show cs.length = [cs].length * cs.length; simp,fun j p hj => ?_⟩
   cases j with
   | zero =>
    obtain rfl : cs = p:=by simpa using hj
    have e1 : (cs.drop (0 * (Kd.raw cs.length).sz)).take (Kd.raw cs.length).sz = cs:=by show (cs.drop (0 * cs.length)).take cs.length = cs; simp
    rw [e1]
    exact ⟨rfl,rfl,h1⟩
   | succ j => simp at hj
  ·rcases List.mem_cons.1 hq with rfl | hq
   ·exact ht
   ·cases hq
 refine aK.cons hoi hd (fun K' hK' => ?_) hrest
 rw [if_pos hw]
 unfold Oper.wp
 rw [hrun]
 show K' (a.put o.dst _) _
 rw [hN]
 exact hK'.out _ _ hk1 (fun _ => h _ _ ⟨M1⟩ ⟨hk1⟩)
end
end
end Go.Proofs.YtdbpglhdicmhhaaGreatDoor.iM
end

section
namespace Go.Proofs
open Go.Shelf
def Tryz.lays169_ren : Go.Shelf.Ren:=⟨fun | 169 => 51 | n => n,fun | 70 => 86 | 9 => 9 | 0 => 0 | 72 => 89 | 37 => 87 | 127 => 137 | 3 => 3 | 5 => 5 | n => n,fun | n => n⟩
theorem Tryz.lays169 : Go.Proofs.Lays.n169 Tryz.prog Tryz.lays169_ren:={
 mixed:=by kernel_rfl
 f169:=Tryz.func51.trans (congrArg some (by kernel_rfl))
 t0:=Tryz.underlying0
 a0:=Tryz.isAgg0
 z0:=Tryz.sizeOf0
 v0:=Tryz.zeroValue0
 t3:=Tryz.underlying3
 a3:=Tryz.isAgg3
 z3:=Tryz.sizeOf3
 v3:=Tryz.zeroValue3
 t9:=Tryz.underlying9
 a9:=Tryz.isAgg9
 z9:=Tryz.sizeOf9
 v9:=Tryz.zeroValue9
 t37:=Tryz.underlying87
 a37:=Tryz.isAgg87
 z37:=Tryz.sizeOf87
 v37:=Tryz.zeroValue87
 t70:=Tryz.underlying86
 a70:=Tryz.isAgg86
 z70:=Tryz.sizeOf86
 v70:=Tryz.zeroValue86
 t72:=Tryz.underlying89
 a72:=Tryz.isAgg89
 z72:=Tryz.sizeOf89
 v72:=Tryz.zeroValue89
 t127:=Tryz.underlying137
 a127:=Tryz.isAgg137
 z127:=Tryz.sizeOf137
 v127:=Tryz.zeroValue137 }
theorem Tryz.Builder_Extra_169 : Builder.Extra Tryz.prog Tryz.lays169_ren:={
 sizeBuilder:=by kernel_rfl
 liesBuilder:=by kernel_rfl
 t5:=Tryz.underlying5
 a5:=Tryz.isAgg5
 z5:=Tryz.sizeOf5
 v5:=Tryz.zeroValue5
 infoByte:=by kernel_rfl
 cellsByte:=by kernel_rfl
 sizeByte:=by kernel_rfl
 neB5:=by decide }
open Go.RowKit in
theorem Tryz.Builder_String_any (B b : Nat) (l : List UInt8) (w : World) (h : Lib.IsBuilder 89 5 B b (Lib.byteCells l) w) (hBw : B ≤ w.heap.size) :
  Calls Tryz.prog 51 #[.pointer (some ⟨b,0,none⟩)] w fun e w' => e = .returned (.string ⟨l.toArray⟩) ∧ Below B w w':=Any.Builder_String_any Tryz.lays169 Tryz.Builder_Extra_169 B b l w h hBw
def Tryz.laysM171_ren : Go.Shelf.Ren:=⟨fun | 171 => 38 | 243 => 82 | 246 => 106 | 283 => 122 | 284 => 123 | 285 => 124 | 286 => 125 | 129 => 134 | 317 => 133 | 318 => 135 | 319 => 136 | 320 => 137 | 337 => 145 | 338 => 146 | n => n,fun | 3 => 3 | 9 => 9 | 2 => 2 | 4 => 4 | 171 => 157 | 0 => 0 | 53 => 158 | 37 => 87 | 5 => 5 | 173 => 161 | 212 => 168 | 51 => 39 | 20 => 20 | 213 => 169 | 46 => 125 | 232 => 188 | 233 => 189 | n => n,fun | 17 => 2 | 18 => 7 | 19 => 8 | n => n⟩
theorem Tryz.laysM171 : Go.Proofs.LaysM.n171 Tryz.prog Tryz.laysM171_ren:={
 mixed:=by kernel_rfl
 f129:=Tryz.func134.trans (congrArg some (by kernel_rfl))
 f171:=Tryz.func38.trans (congrArg some (by kernel_rfl))
 f243:=Tryz.func82.trans (congrArg some (by kernel_rfl))
 f246:=Tryz.func106.trans (congrArg some (by kernel_rfl))
 f283:=Tryz.func122.trans (congrArg some (by kernel_rfl))
 f284:=Tryz.func123.trans (congrArg some (by kernel_rfl))
 f285:=Tryz.func124.trans (congrArg some (by kernel_rfl))
 f286:=Tryz.func125.trans (congrArg some (by kernel_rfl))
 f317:=Tryz.func133.trans (congrArg some (by kernel_rfl))
 f318:=Tryz.func135.trans (congrArg some (by kernel_rfl))
 f319:=Tryz.func136.trans (congrArg some (by kernel_rfl))
 f320:=Tryz.func137.trans (congrArg some (by kernel_rfl))
 f337:=Tryz.func145.trans (congrArg some (by kernel_rfl))
 f338:=Tryz.func146.trans (congrArg some (by kernel_rfl))
 t0:=Tryz.underlying0
 a0:=Tryz.isAgg0
 z0:=Tryz.sizeOf0
 v0:=Tryz.zeroValue0
 t2:=Tryz.underlying2
 a2:=Tryz.isAgg2
 z2:=Tryz.sizeOf2
 v2:=Tryz.zeroValue2
 t3:=Tryz.underlying3
 a3:=Tryz.isAgg3
 z3:=Tryz.sizeOf3
 v3:=Tryz.zeroValue3
 t4:=Tryz.underlying4
 a4:=Tryz.isAgg4
 z4:=Tryz.sizeOf4
 v4:=Tryz.zeroValue4
 t5:=Tryz.underlying5
 a5:=Tryz.isAgg5
 z5:=Tryz.sizeOf5
 v5:=Tryz.zeroValue5
 t9:=Tryz.underlying9
 a9:=Tryz.isAgg9
 z9:=Tryz.sizeOf9
 v9:=Tryz.zeroValue9
 t20:=Tryz.underlying20
 a20:=Tryz.isAgg20
 z20:=Tryz.sizeOf20
 v20:=Tryz.zeroValue20
 t37:=Tryz.underlying87
 a37:=Tryz.isAgg87
 z37:=Tryz.sizeOf87
 v37:=Tryz.zeroValue87
 t46:=Tryz.underlying125
 a46:=Tryz.isAgg125
 z46:=Tryz.sizeOf125
 v46:=Tryz.zeroValue125
 t51:=Tryz.underlying39
 a51:=Tryz.isAgg39
 z51:=Tryz.sizeOf39
 v51:=Tryz.zeroValue39
 t53:=Tryz.underlying158
 a53:=Tryz.isAgg158
 z53:=Tryz.sizeOf158
 v53:=Tryz.zeroValue158
 t171:=Tryz.underlying157
 a171:=Tryz.isAgg157
 z171:=Tryz.sizeOf157
 v171:=Tryz.zeroValue157
 t173:=Tryz.underlying161
 a173:=Tryz.isAgg161
 z173:=Tryz.sizeOf161
 v173:=Tryz.zeroValue161
 t212:=Tryz.underlying168
 a212:=Tryz.isAgg168
 z212:=Tryz.sizeOf168
 v212:=Tryz.zeroValue168
 t213:=Tryz.underlying169
 a213:=Tryz.isAgg169
 z213:=Tryz.sizeOf169
 t232:=Tryz.underlying188
 a232:=Tryz.isAgg188
 z232:=Tryz.sizeOf188
 v232:=Tryz.zeroValue188
 t233:=Tryz.underlying189
 a233:=Tryz.isAgg189
 z233:=Tryz.sizeOf189
 v233:=Tryz.zeroValue189
 g17:=by kernel_rfl
 g18:=by kernel_rfl
 g19:=by kernel_rfl
 i0:=by kernel_rfl
 i2:=by kernel_rfl
 i3:=by kernel_rfl
 i4:=by kernel_rfl
 i5:=by kernel_rfl
 i9:=by kernel_rfl
 i20:=by kernel_rfl
 i37:=by kernel_rfl
 i46:=by kernel_rfl
 i51:=by kernel_rfl
 i53:=by kernel_rfl
 i171:=by kernel_rfl
 i173:=by kernel_rfl
 i212:=by kernel_rfl
 i232:=by kernel_rfl
 i233:=by kernel_rfl
 m17:=by kernel_rfl
 m18:=by kernel_rfl
 m19:=by kernel_rfl }
open Go.RowKit Go.Sort Go.Lib in
theorem Tryz.strconv_Itoa (n : Int) (h0 : -9223372036854775808 ≤ n) (h1 : n ≤ 9223372036854775807) (w : World) (htab : Lib.TabIs Tryz.prog w "internal/strconv.uint64pow10" .u64 Lib.pow10Tab) :
  Calls Tryz.prog 38 #[.int .i64 n] w fun e w' => e = .returned (.string ⟨(Lib.itoa n).toArray⟩) ∧ ∃ k os,w' = grow (w.drewN k) os:=Any.strconv_Itoa Tryz.laysM171 n h0 h1 w htab
end Go.Proofs
end

section
namespace Go.Proofs.YtdbpglhdicmhhaaGreatDoor.aeE
open Go.RowKit Go.Shelf Go.Sort Go.Lib
theorem aa4 : (Tryz.prog.info? 89).map (·.size) = some 2:=by kernel_rfl
theorem infoByte : (Tryz.prog.info? 5).map (fun i => (i.zero,i.size,i.bytes)) = some (some (.int .u8 0),1,1):=by kernel_rfl
theorem QG (b : Nat) (w : World) (h0 : w.cell? ⟨b,0,none⟩ = some (.pointer (some ⟨b,0,none⟩))) :
  Calls Tryz.prog 85 #[.pointer (some ⟨b,0,none⟩)] w fun e w' => e = .returned (.tuple #[]) ∧ w' = w:=by
 obtain ⟨j,hj,_⟩:=Option.map_eq_some_iff.1 aa4
 go_enter Tryz.func85,Tryz.ntmps85
 go_wp2
 rw [Lib.run_neq_ptr_same w _ Tryz.underlying86 hj]
 go_wp2
 go_end0
 exact ⟨rfl,rfl⟩
theorem OJ (b : Nat) (w : World) (h0 : w.cell? ⟨b,0,none⟩ = some (.pointer none)) (hsh : w.shape? b = some (89,2)) (hfz : w.frozen? ⟨b,0,none⟩ = false) :
  Calls Tryz.prog 85 #[.pointer (some ⟨b,0,none⟩)] w fun e w' => e = .returned (.tuple #[]) ∧ w' = w.setCell ⟨b,0,none⟩ (.pointer (some ⟨b,0,none⟩)):=by
 obtain ⟨j,hj,hjs⟩:=Option.map_eq_some_iff.1 aa4
 go_enter Tryz.func85,Tryz.ntmps85
 go_wp2
 rw [Lib.run_to_unsafe w ⟨b,0,none⟩ Tryz.underlying86 Tryz.underlying151 hj (by rw [hjs]; decide) hsh (Nat.zero_lt_succ 1)]
 simp only [Result.andThen]
 rw [Oper.upon_value]
 go_wp2
 rw [run_callFunc_extern Tryz.func108 (by kernel_rfl) (by kernel_rfl) (by kernel_rfl) (e:=Extern.AbiNoEscape.same) (by kernel_rfl)]
 rw [Lib.run_noEscape]
 simp only [Result.andThen]
 rw [Oper.upon_value]
 go_wp2
 rw [Lib.run_from_unsafe w ⟨b,0,none⟩ Tryz.underlying151 Tryz.underlying86 hj hsh (by kernel_rfl)]
 simp only [Result.andThen]
 rw [Oper.upon_value]
 go_wp2
 go_end0
 exact ⟨rfl,rfl⟩
theorem OI (B b : Nat) (bs : List Value) (w : World) (h : Lib.IsBuilder 89 5 B b bs w) :
  Calls Tryz.prog 85 #[.pointer (some ⟨b,0,none⟩)] w fun e w' => e = .returned (.tuple #[]) ∧ (Lib.BuilderAt 89 5 B b (.pointer (some ⟨b,0,none⟩)) bs w' ∧ Below B w w' ∧ Lib.OthersKept 5 (some b) w w'):=by
 rcases h with h | h
 ·refine (OJ b w h.cell0 h.shape h.frozen0).mono ?_
  rintro e w' ⟨rfl,rfl⟩
  exact ⟨rfl,h.used _,(Below.refl B w).setCell (p:=⟨b,0,none⟩) h.1 _,(Lib.OthersKept.refl _ _ w).setCell ⟨b,0,none⟩ rfl _⟩
 ·refine (QG b w h.cell0).mono ?_
  rintro e w' ⟨rfl,rfl⟩
  exact ⟨rfl,h,Below.refl B _,Lib.OthersKept.refl _ _ _⟩
theorem Qi (B b : Nat) (bs : List Value) (s : ByteArray) (w : World) (h : Lib.IsBuilder 89 5 B b bs w) (hlen : bs.length + s.size ≤ 140737488355328) (hBw : B ≤ w.heap.size) :
  Calls Tryz.prog 47 #[.pointer (some ⟨b,0,none⟩),.string s] w fun e w' => e = .returned (.tuple #[.int .i64 s.size,.nilIface]) ∧ Lib.IsBuilder 89 5 B b (bs ++ Lib.strCells s) w' ∧ Below B w w' ∧ Lib.OthersKept 5 (some b) w w':=by
 obtain ⟨i0,hi,hz0,hz1,hz2⟩:=info_parts infoByte
 go_enter Tryz.func47,Tryz.ntmps47
 go_wp2_with (refine (OI B b bs _ h).mono ?_)
 rintro e w1 ⟨rfl,h1,hb1,hk1⟩
 obtain ⟨hB,v,hbk,hown,hne⟩:=h1
 have c0 : w1.cell? ⟨b,0,none⟩ = some (.pointer (some ⟨b,0,none⟩)):=by rw [Lib.cell_of_heap hbk]; rfl
 have c1 : w1.cell? ⟨b,1,none⟩ = some v:=by rw [Lib.cell_of_heap hbk]; rfl
 go_wp2_with (at_builtin; refine Lib.wpList_append_own_string _ rfl _ _ 87 9 rfl B 5 i0 Tryz.underlying87 Tryz.underlying9 hi hz0 hz1 hz2 _ _ _ rfl hown s rfl ?c3 ?c4 ?c5 ?_)
 case c3 => unfold maxLen; omega
 case c4 => omega
 case c5 => have:=hb1.size; omega
 intro v' w2 hown' hgrow _
 have hlt : b < w1.heap.size:=by
  rcases Nat.lt_or_ge b w1.heap.size with h' | h'
  ·exact h'
  ·simp [Array.getElem?_eq_none h'] at hbk
 have hb2 : w2.heap[b]? = some (.cells #[.pointer (some ⟨b,0,none⟩),v] 89 (0,0)):=by
  rw [hgrow.block b hlt (fun e => hne e.symm)]
  exact hbk
 have d0 : w2.cell? ⟨b,0,none⟩ = some (.pointer (some ⟨b,0,none⟩)):=by rw [Lib.cell_of_heap hb2]; rfl
 have d1 : w2.cell? ⟨b,1,none⟩ = some v:=by rw [Lib.cell_of_heap hb2]; rfl
 have f1 : w2.frozen? ⟨b,1,none⟩ = false:=Lib.frozen_of_heap hb2 1
 obtain ⟨ao,n',cap,rfl⟩ : ∃ ao n' cap,v' = .slice ao n' cap:=by
  rcases hown'.2 with ⟨hv,_⟩ | ⟨g,cap,cur,hv,_⟩
  ·exact ⟨_,_,_,hv⟩
  ·exact ⟨_,_,_,hv⟩
 go_wp2
 go_ret2
 refine ⟨rfl,.inr ?_,?_,(hk1.grown hgrow (Lib.ownsRowF_kind (World.ownsRowF_of hown))).setCell ⟨b,1,none⟩ rfl _⟩
 ·exact Lib.BuilderAt.put (T:=89) (e:=5) hB hb2 (bs':=bs ++ Lib.strCells s) (by simpa [Lib.strCells_length] using hown') (by decide)
 ·exact (hb1.grown hgrow (by have:=hb1.size; omega) (fun k hk => (hown.lt k hk).1)).setCell (p:=⟨b,1,none⟩) hB _
end Go.Proofs.YtdbpglhdicmhhaaGreatDoor.aeE
end
