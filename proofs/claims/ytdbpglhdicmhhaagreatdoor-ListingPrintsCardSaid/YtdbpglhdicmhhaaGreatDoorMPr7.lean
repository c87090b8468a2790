import Derived.Test.YtdbpglhdicmhhaaGreatDoorMPr3
import Derived.Test.YtdbpglhdicmhhaaGreatDoorMPr1
import Derived.Maps.Own
import Derived.Maps.OwnSet
import Derived.Maps.Views
import Derived.DeepKeys4
import Derived.Lib.Hide
import Derived.Test.YtdbpglhdicmhhaaGreatDoorMPr4
import Derived.Test.YtdbpglhdicmhhaaGreatDoorMPr5
import Derived.Test.YtdbpglhdicmhhaaGreatDoorMPr6
import Derived.Deep.QuietTactic
import Derived.BigQuiet
import Derived.WalkKit
import Derived.Outline
import Derived.IntWalk
set_option maxHeartbeats 8000000
set_option maxRecDepth 100000
set_option linter.unusedVariables false
set_option linter.unusedSimpArgs false
section
namespace Go.Proofs.YtdbpglhdicmhhaaGreatDoor.iM
open Go.RowKit Go.Proofs.YtdbpglhdicmhhaaGreatDoorW.aI Go.Proofs.YtdbpglhdicmhhaaGreatDoorW.aX Go.Proofs.YtdbpglhdicmhhaaGreatDoorW.aZ
def Ba (o : Obj) : Prop:=∀ cs t f,o ≠ .cells cs t f
structure bf (es : List TypeId) (w0 W : World) (l : List (Nat × Array Value × TypeId)) (fx : List (Nat × Obj)) (rows : List Row) : Prop where
 mem : Mem es w0 W l rows
 fix : ∀ (i : Nat) (x : Nat × Obj),fx[i]? = some x → W.heap[x.1]? = some x.2 ∧ w0.heap.size ≤ x.1 ∧ Ba x.2
 part : ∀ (i j : Nat) (x y : Nat × Obj),fx[i]? = some x → fx[j]? = some y → i ≠ j → x.1 ≠ y.1
section
variable {es : List TypeId} {w0 W W1 : World} {l : List (Nat × Array Value × TypeId)} {fx : List (Nat × Obj)} {rows : List Row}
theorem jk {W : World} {g : Nat} {o : Obj} (h : W.heap[g]? = some o) : g < W.heap.size:=by
 rcases Nat.lt_or_ge g W.heap.size with h2 | h2
 ·exact h2
 ·rw [Array.getElem?_eq_none h2] at h; cases h
theorem bf.start (es : List TypeId) (w0 : World) : bf es w0 w0 [] [] []:=⟨Mem.start es w0,fun i x h => by simp at h,fun i j x y h => by simp at h⟩
theorem bf.call (M : bf es w0 W l fx rows) (hb : Below W.heap.size W W1) : bf es w0 W1 l fx rows :=
 ⟨M.mem.call hb,fun i x h => ⟨(hb.block _ (jk (M.fix i x h).1)).trans (M.fix i x h).1,(M.fix i x h).2⟩,M.part⟩
theorem bf.drewN (M : bf es w0 W l fx rows) (k : Nat) : bf es w0 (W.drewN k) l fx rows:=M.call (aj (Below.refl _ _) k)
theorem bf.drew (M : bf es w0 W l fx rows) : bf es w0 W.drew l fx rows:=M.call (qC (Below.refl _ _))
theorem bf.forget (M : bf es w0 W l fx rows) (k : Nat) : bf es w0 W (l.take k) fx rows:=⟨M.mem.forget k,M.fix,M.part⟩
theorem bf.fQ {rows' : List Row} (M : bf es w0 W l fx rows) (h : Mem es w0 W l rows → Mem es w0 W l rows') : bf es w0 W l fx rows':=⟨h M.mem,M.fix,M.part⟩
theorem bf.FZ (M : bf es w0 W l fx rows) (i j : Nat) {b : Nat} {cs : Array Value} {t : TypeId} (h : l[i]? = some (b,cs,t)) {x : Nat × Obj} (hx : fx[j]? = some x) : x.1 ≠ b:=by
 intro he
 have h1:=(M.fix j x hx)
 rw [he,M.mem.at i h] at h1
 exact h1.2.2 _ _ _ (Option.some.inj h1.1).symm
theorem bf.F5 (M : bf es w0 W l fx rows) (i j : Nat) {r : Row} (h : rows[i]? = some r) {x : Nat × Obj} (hx : fx[j]? = some x) : some x.1 ≠ r.v.ownBlock:=by
 intro he
 obtain ⟨cells,hc⟩:=Kd.Sm (M.mem.owns i _ h) x.1 he.symm
 have h1:=(M.fix j x hx)
 rw [hc] at h1
 exact h1.2.2 _ _ _ (Option.some.inj h1.1).symm
theorem bf.other (M : bf es w0 W l fx rows) {l' : List (Nat × Array Value × TypeId)} {rows' : List Row} (M1 : Mem es w0 W1 l' rows') (he : ∀ (i : Nat) (x : Nat × Obj),fx[i]? = some x → W1.heap[x.1]? = W.heap[x.1]?) : bf es w0 W1 l' fx rows' :=
 ⟨M1,fun i x h => ⟨(he i x h).trans (M.fix i x h).1,(M.fix i x h).2⟩,M.part⟩
theorem Mem.beside (M : Mem es w0 W l rows) {b : Nat} (hg : W.grownBy W1 (some b)) (hb : w0.heap.size ≤ b) (hn : ∀ cs t f,W.heap[b]? ≠ some (.cells cs t f)) : Mem es w0 W1 l rows:=by
 refine ⟨M.below.grown hg M.below.size (fun k hk => by injection hk with hk; omega),fun x hx => ?_,M.apart,M.typ,fun i r hr => ?_⟩
 ·have hx':=M.blk x hx
  refine ⟨FQ hx'.1 hg (fun he => ?_),hx'.2⟩
  injection he with he
  rw [he] at hx'
  exact hn _ _ _ hx'.1
 ·refine Kd.sJ (Kd.Sj (Kd.Bc (M.owns i r hr)) hg (fun k hk he => ?_)) (fun k hk => hk.1)
  obtain ⟨_,_,_,q,hq,cells,hc⟩:=hk
  injection he with he
  rw [he] at hc
  exact hn _ _ _ hc
theorem bf.turned (M : bf es w0 W l fx rows) (i : Nat) {g : Nat} {o o' : Obj} (hi : fx[i]? = some (g,o)) (hg : W.grownBy W1 (some g)) (ho : W1.heap[g]? = some o') (hn : Ba o') : bf es w0 W1 l (fx.set i (g,o')) rows:=by
 have h0:=M.fix i _ hi
 have hil : i < fx.length:=(List.getElem?_eq_some_iff.1 hi).1
 refine ⟨M.mem.beside hg h0.2.1 (fun cs t f h => h0.2.2 cs t f (Option.some.inj (h0.1.symm.trans h))),fun j x hx => ?_,fun j k x y hx hy hne => ?_⟩
 ·rw [List.getElem?_set] at hx
  by_cases hij : i = j
  ·subst hij
   rw [if_pos rfl,if_pos hil] at hx
   obtain rfl:=Option.some.inj hx
   exact ⟨ho,h0.2.1,hn⟩
  ·rw [if_neg hij] at hx
   have h1:=M.fix j x hx
   refine ⟨(hg.block _ (jk h1.1) (fun he => ?_)).trans h1.1,h1.2⟩
   injection he with he
   exact M.part i j _ _ hi hx hij he.symm
 ·have key : ∀ (j : Nat) (x : Nat × Obj),(fx.set i (g,o'))[j]? = some x → ∃ z,fx[j]? = some z ∧ z.1 = x.1:=by
   intro j x hx
   rw [List.getElem?_set] at hx
   by_cases hij : i = j
   ·subst hij
    rw [if_pos rfl,if_pos hil] at hx
    obtain rfl:=Option.some.inj hx
    exact ⟨_,hi,rfl⟩
   ·rw [if_neg hij] at hx
    exact ⟨x,hx,rfl⟩
  obtain ⟨zx,hzx,ex⟩:=key j x hx
  obtain ⟨zy,hzy,ey⟩:=key k y hy
  rw [← ex,← ey]
  exact M.part j k _ _ hzx hzy hne
theorem bf.made (M : bf es w0 W l fx rows) (o : Obj) (hn : Ba o) : bf es w0 (W.alloc o) l (fx ++ [(W.heap.size,o)]) rows:=by
 have M1:=M.call (ak (Below.refl _ _) (o:=o))
 have hnew : (W.alloc o).heap[W.heap.size]? = some o:=(MapKept.heap_alloc W o).1
 have hlt : ∀ (i : Nat) (x : Nat × Obj),fx[i]? = some x → x.1 < W.heap.size:=fun i x h => jk (M.fix i x h).1
 have key : ∀ (j : Nat) (x : Nat × Obj),(fx ++ [(W.heap.size,o)])[j]? = some x → (fx[j]? = some x ∧ j < fx.length) ∨ (x = (W.heap.size,o) ∧ j = fx.length):=by
  intro j x hx
  rcases Nat.lt_trichotomy j fx.length with h | h | h
  ·rw [List.getElem?_append_left h] at hx; exact .inl ⟨hx,h⟩
  ·subst h; simp at hx; exact .inr ⟨hx.symm,rfl⟩
  ·rw [List.getElem?_eq_none (by simp; omega)] at hx; cases hx
 refine ⟨M1.mem,fun j x hx => ?_,fun j k x y hx hy hne => ?_⟩
 ·rcases key j x hx with ⟨h,_⟩ | ⟨rfl,_⟩
  ·exact M1.fix j x h
  ·exact ⟨hnew,bV M.mem.below,hn⟩
 ·rcases key j x hx with ⟨h,_⟩ | ⟨rfl,e1⟩ <;> rcases key k y hy with ⟨h',_⟩ | ⟨rfl,e2⟩
  ·exact M.part j k x y h h' hne
  ·have:=hlt j x h; show x.1 ≠ W.heap.size; omega
  ·have:=hlt k y h'; show W.heap.size ≠ y.1; omega
  ·exact absurd (e1.trans e2.symm) hne
end
def uf (P : Program) (k : TypeId) (n : Nat) (o : Obj) {κ : Type} (enc : κ → Value) (f : κ → Option Int) : Prop :=
 (∃ es ck,o = .map es ck) ∧ ∃ D : DataW Unit,(∀ (W : World) (g : Nat),W.heap[g]? = some o → W.ownsMap P k (plainElem P 3) g n D) ∧
  ∀ (x : κ) (kl : Lit),keyOf P k (enc x) = some kl → Maps.has D kl = (f x).isSome ∧ D.atKey kl (.lit (.int .i64 0)) = .lit (.int .i64 ((f x).getD 0))
section
variable {P : Program} {k : TypeId} {n : Nat} {o : Obj} {κ : Type} {enc : κ → Value} {f : κ → Option Int}
theorem uf.Nr (h : uf P k n o enc f) : Ba o:=by
 obtain ⟨⟨es,ck,rfl⟩,_⟩:=h
 intro cs t f h; cases h
theorem uf.empty (P : Program) (k : TypeId) {κ : Type} (enc : κ → Value) : uf P k 0 (.map #[] 0) enc (fun _ => none):=by
 refine ⟨⟨_,_,rfl⟩,.map [],fun W g h => ?_,fun x kl h => ⟨rfl,rfl⟩⟩
 obtain ⟨es,ck,h1,h2,h3,h4⟩:=World.ownsMap_made (H:=Unit) W P k (plainElem P 3)
 rw [(MapKept.heap_alloc W _).1] at h1
 injection h1 with h1
 injection h1 with e1 e2
 subst e1; subst e2
 exact ⟨#[],0,h,h2,h3,h4⟩
theorem uf.mono (h : uf P k n o enc f) {m : Nat} (hm : n ≤ m) : uf P k m o enc f:=by
 obtain ⟨h0,D,h1,h2⟩:=h
 exact ⟨h0,D,fun W g hg => (h1 W g hg).mono hm,h2⟩
theorem uf.look {t : TypeId} (h : uf P k n o enc f) (K : Maps.Keyed P k) (ht : P.underlying t = some (.map k 3)) (hu3 : P.underlying 3 = some (.int .i64)) {W : World} {g : Nat} (hg : W.heap[g]? = some o)
  (hz : (zeroValue 3).run P W = .ok (.int .i64 0) W) (x : κ) {kl : Lit} (hk : keyOf P k (enc x) = some kl) :
  (Instr.lookup t (.map (some g)) (enc x) true).run P W = .ok (.tuple #[.int .i64 ((f x).getD 0),.bool (f x).isSome]) W:=by
 obtain ⟨_,D,h1,h2⟩:=h
 obtain ⟨v,ps,hrun,hv⟩:=(h1 W g hg).look_ok K ht hz (plainElem_int hu3 (by decide)) hk
 obtain ⟨c,rfl,hc,hwc⟩:=plainElem_int_inv hu3 hv
 have:=h2 x kl hk
 rw [this.2] at hc
 rw [hrun,this.1]
 simp only [Prod.mk.injEq] at hc
 have hc1:=hc.1
 injection hc1 with hc1
 injection hc1 with _ hc1
 rw [hc1]
theorem uf.update [DecidableEq κ] {t : TypeId} (h : uf P k n o enc f) (K : Maps.Keyed P k) (hinj : ∀ x y,enc x = enc y → x = y) (ht : P.underlying t = some (.map k 3)) (hu3 : P.underlying 3 = some (.int .i64)) {W : World} {g : Nat} (hg : W.heap[g]? = some o)
  (hn : n < maxLen) (x : κ) {kl : Lit} (hk : keyOf P k (enc x) = some kl) (v : Int) (hv : (Lit.int .i64 v).wf = true) :
  ∃ W1 o1,(Instr.mapUpdate t (.map (some g)) (enc x) (.int .i64 v)).run P W = .ok () W1 ∧ W1.heap[g]? = some o1 ∧ W.grownBy W1 (some g) ∧ uf P k (n + 1) o1 enc (fun y => if y = x then some v else f y):=by
 obtain ⟨⟨es0,ck0,rfl⟩,D,h1,h2⟩:=h
 obtain ⟨W1,hrun,hown1,hgr⟩:=(h1 W g hg).update K ht hn hk (plainElem_int (H:=Unit) hu3 hv)
 have hmap : Maps.IsMap D:=by
  obtain ⟨es,ck,_,_,_,rfl⟩:=h1 W g hg
  exact ⟨_,rfl⟩
 obtain ⟨es,ck,e1,e2,e3,e4⟩:=hown1
 refine ⟨W1,_,hrun,e1,hgr,⟨⟨es,ck,rfl⟩,_,fun W' g' hg' => ⟨es,ck,hg',e2,e3,e4⟩,fun y kl' hy => ?_⟩⟩
 by_cases hyx : y = x
 ·subst hyx
  rw [hk] at hy
  obtain rfl:=Option.some.inj hy
  exact ⟨by rw [Maps.has_put_same hmap (K.key hk)]; simp,by rw [Maps.atKey_put_same hmap (K.key hk)]; simp⟩
 ·show _ = (if y = x then some v else f y).isSome ∧ _ = DataW.lit (.int .i64 ((if y = x then some v else f y).getD 0))
  rw [if_neg hyx]
  have hne : kl' ≠ kl:=fun he => hyx (hinj _ _ (K.inj (he ▸ hy) hk))
  rw [Maps.has_put_other hne,Maps.atKey_put_other hne]
  exact h2 y kl' hy
end
section
variable {P : Program} {ops : Array Oper} {rest : List Oper} {o : Oper} {a : Act} {Q : Exit → Act → World → Prop} {es : List TypeId} {w0 W : World} {l : List (Nat × Array Value × TypeId)} {rows : List Row} {fx : List (Nat × Obj)}
theorem fS (M : ah (bf es w0 W l fx rows)) (t : TypeId) (p : Operand) (i j : Nat) (u : Value) (new : Array Value) {b : Nat} {cs : Array Value} {tb : TypeId} {x : Operand}
  (h : ∀ w',ah (bf es w0 w' (l.set i (b,new,tb)) fx rows) → wpList P ops Q rest a w')
  (hi : l[i]? = some (b,cs,tb)) (hj : cs[j]?.isSome = true) (h1 : u.oneCell' = true) (hnew : cs.setIfInBounds j u = new) {pt : Tmp} (hpt : p = .tmp pt:=by with_reducible rfl)
  (ho : o.op = .store t p x:=by with_reducible rfl) (hn : o.dst = none:=by with_reducible rfl) (hgd : o.guard = none:=by with_reducible rfl)
  (hx : a.eval p = .pointer (some ⟨b,j,none⟩):=by first | rfl | (go_simp; done) | (go_simp; rfl)) (hv : a.eval x = u:=by first | rfl | (go_simp; done) | (go_simp; rfl))
  (hs : (P.info? t).map (·.size) = some 1:=by kernel_rfl) :
  wpList P ops Q (o :: rest) a W:=by
 subst hpt
 exact IU hgd ho hn b j cs u hx hv (M.out.mem.at i hi) hj hs h1 fun w' hn' hk hb => h w' ⟨M.out.other (Mem.keep M.out.mem i hi (hnew ▸ hn') hk (hb w0 M.out.mem.below (M.out.mem.ge i hi))) (fun q y hy => hk.2 y.1 (jk (M.out.fix q y hy).1) (M.out.FZ i q hi hy) (by simp))⟩
theorem fA {α : Type} {d : Kd α} {e : TypeId} {v : Value} {xs : List α} (M : ah (bf es w0 W l fx (⟨d,e,v,xs⟩ :: rows))) (N : Tmp) (p : α) (cs : List Value) (z : Value) (bytes : Nat) (hl : (xs.length + 1) * bytes ≤ 140737488355328)
  (h : ∀ v' w1,ah (bf es w0 w1 l fx (⟨d,e,v',xs ++ [p]⟩ :: rows)) → wpList P ops Q rest (a.put o.dst v') w1)
  (hp : d.M W w0.heap.size (fun _ => False) p cs) (hz : z.cells.size = d.sz) (hs0 : 0 < d.sz)
  {s x : Operand} {t : TypeId} (ho : o.op = .call { callee:=.builtin .append,args:=#[s,x],argTypes:=#[t,t] }:=by with_reducible rfl) (hd : o.dst = some N:=by with_reducible rfl) (hgd : o.guard = none:=by with_reducible rfl)
  (ht : P.underlying t = some (.slice e):=by kernel_rfl) (hinfo : (P.info? e).map (fun i => (i.zero,i.size,i.bytes)) = some (some z,d.sz,bytes):=by kernel_rfl)
  (hb0 : 0 < bytes:=by decide) (hs : a.eval s = v:=by rfl) (hx : a.eval x = .slice (some ⟨W.heap.size,0,none⟩) 1 1:=by rfl) : wpList P ops Q (o :: rest) a (W.alloc (.cells cs.toArray e)):=by
 have M0:=M.out.mem
 refine Kd.Oo d (w0:=w0) w0.heap.size hgd s x t e z bytes ho ht hinfo hz hs0 hb0 v xs p cs (PE (⟨d,e,v,xs⟩ :: rows) 0) (fun _ => False) hs hx hp (fun _ hk => hk.elim)
  (fun k hk => M0.Ns 0 k hk) (M0.owns 0 _ rfl) M0.below M0.below.size hl (fun v1 w1 hR hB hg hat => ?_)
 exact h v1 w1 ⟨M.out.other (M0.written hB hg hR hat) (fun q y hy => hg.block y.1 (jk (M.out.fix q y hy).1) (M.out.F5 0 q rfl hy))⟩
theorem fE {sz : Nat} {e : TypeId} {g n c : Nat} {xs : List (List Value)} (M : ah (bf es w0 W l fx (⟨Kd.raw sz,e,.slice (some ⟨g,0,none⟩) n c,xs⟩ :: rows))) (t : TypeId) (p : Operand) (i j : Nat) (u : Value) (seg x0 : List Value) (hi : i < n) (hx0 : xs[i]? = some x0)
  (h : ∀ w',ah (bf es w0 w' l fx (⟨Kd.raw sz,e,.slice (some ⟨g,0,none⟩) n c,xs.set i (x0.take j ++ seg ++ x0.drop (j + seg.length))⟩ :: rows)) → wpList P ops Q rest a w')
  (hu : u.cells.toList = seg) (h1 : ∀ q ∈ seg,q.oneCell' = true) (hj : j + seg.length ≤ sz)
  {x : Operand} {off : Nat} (hoff : off = i * sz + j) (ho : o.op = .store t p x:=by with_reducible rfl) (hn : o.dst = none:=by with_reducible rfl) (hgd : o.guard = none:=by with_reducible rfl)
  (hx : a.eval p = .pointer (some ⟨g,off,none⟩):=by first | rfl | (go_simp; done) | (go_simp; rfl)) (hv : a.eval x = u:=by first | rfl | (go_simp; done) | (go_simp; rfl)) (hs : (P.info? t).map (·.size) = some seg.length:=by kernel_rfl) :
  wpList P ops Q (o :: rest) a W:=by
 have M0:=M.out.mem
 have hR:=M0.owns 0 _ rfl
 obtain ⟨c0,hcl,hM,hcc,_⟩:=Kd.FI hR [] (i : Int) (by omega) (by exact_mod_cast hi)
 rw [Int.toNat_natCast] at hM hcc
 have Nh : xs.getD i [] = x0:=by rw [List.getD_eq_getElem?_getD,hx0]; rfl
 obtain ⟨e1,e2,e3⟩:=hM
 rw [Nh] at e1
 subst e1
 have hlen : c0.length = sz:=e2
 refine Kd.YC (Kd.raw sz) (w0:=w0) w0.heap.size hn hgd t p x ho e (i : Int) j xs (c0.take j ++ seg ++ c0.drop (j + seg.length)) u seg c0 (PE (⟨Kd.raw sz,e,.slice (some ⟨g,0,none⟩) n c,xs⟩ :: rows) 0) (fun _ => False) hx (by rw [hoff,Int.toNat_natCast]; rfl) hv hu hs h1 hR (by omega) (by exact_mod_cast hi) hcl (by rw [Int.toNat_natCast]; exact hcc) hj
  ⟨rfl,by simp only [List.length_append,List.length_take,List.length_drop]; omega,fun q hq => ?_⟩ (fun _ hk => hk.elim) M0.below (fun w1 hR1 hB hg => ?_)
 ·rcases List.mem_append.1 hq with hq | hq
  ·rcases List.mem_append.1 hq with hq | hq
   ·exact e3 q (List.mem_of_mem_take hq)
   ·exact h1 q hq
  ·exact e3 q (List.mem_of_mem_drop hq)
 ·rw [Int.toNat_natCast] at hR1
  exact h w1 ⟨M.out.other (M0.written hB hg hR1 (.inl rfl)) (fun q y hy => hg.block y.1 (jk (M.out.fix q y hy).1) (M.out.F5 0 q rfl hy))⟩
theorem bf.elem {sz : Nat} {e : TypeId} {g n c : Nat} {xs : List (List Value)} (M : bf es w0 W l fx rows) (q : Nat) (hq : rows[q]? = some ⟨Kd.raw sz,e,.slice (some ⟨g,0,none⟩) n c,xs⟩) {i : Nat} {x0 : List Value} (hx0 : xs[i]? = some x0) (hi : i < n) (j : Nat) {u : Value} (hu : x0[j]? = some u) : W.cell? ⟨g,i * sz + j,none⟩ = some u:=by
 obtain ⟨c0,hcl,hM,hcc,_⟩:=Kd.FI (M.mem.owns q _ hq) [] (i : Int) (by omega) (by exact_mod_cast hi)
 rw [Int.toNat_natCast] at hM hcc
 have Nh : xs.getD i [] = x0:=by rw [List.getD_eq_getElem?_getD,hx0]; rfl
 obtain ⟨e1,e2,e3⟩:=hM
 rw [Nh] at e1
 subst e1
 exact hcc j u hu
theorem bf.slice {α : Type} {d : Kd α} {e : TypeId} {v : Value} {xs : List α} (M : bf es w0 W l fx rows) (q : Nat) (hq : rows[q]? = some ⟨d,e,v,xs⟩) : (∃ c,v = .slice none 0 c ∧ xs = []) ∨ ∃ g c,v = .slice (some ⟨g,0,none⟩) xs.length c ∧ xs.length ≤ c:=by
 have hR:=M.mem.owns q _ hq
 obtain ⟨inner,ho⟩:=Kd.J4 hR
 obtain ⟨A,c,he,hc,_⟩:=Kd.zS hR
 rcases ho.2 with ⟨he2,h0⟩ | ⟨g,cap,cur,he2,_⟩
 ·left
  exact ⟨0,he2,List.length_eq_zero_iff.1 (by have:=h0; omega)⟩
 ·right
  rw [he2] at he
  injection he with e1 e2 e3
  subst e3
  exact ⟨g,cap,he2,hc⟩
theorem bf.one {α : Type} {d : Kd α} {e : TypeId} {v : Value} {xs : List α} (M : bf es w0 W l fx rows) (q : Nat) (hq : rows[q]? = some ⟨d,e,v,xs⟩) : v.oneCell' = true:=by
 have hR : d.R e W _ _ v xs:=M.mem.owns q _ hq
 obtain ⟨A,c,rfl⟩:=Kd.iy hR; rfl
theorem bf.zV {ik : IntKind} {e : TypeId} {g n c : Nat} {xs : List Int} (M : bf es w0 W l fx rows) (q : Nat) (hq : rows[q]? = some ⟨Kd.int ik,e,.slice (some ⟨g,0,none⟩) n c,xs⟩) {i : Nat} {x : Int} (hx : xs[i]? = some x) (hi : i < n) : W.cell? ⟨g,i,none⟩ = some (.int ik x):=by
 obtain ⟨c0,hcl,hM,hcc,_⟩:=Kd.FI (M.mem.owns q _ hq) (0 : Int) (i : Int) (by omega) (by exact_mod_cast hi)
 rw [Int.toNat_natCast] at hM hcc
 have Nh : xs.getD i 0 = x:=by rw [List.getD_eq_getElem?_getD,hx]; rfl
 have e1 : c0 = [Value.int ik (xs.getD i 0)]:=hM
 rw [Nh] at e1
 have:=hcc 0 (.int ik x) (by rw [e1]; rfl)
 have e2 : i * (Kd.int ik).sz + 0 = i:=by show i * 1 + 0 = i; omega
 rwa [e2] at this
theorem bf.XA {α : Type} {d : Kd α} {e : TypeId} {v : Value} {xs : List α} (M : bf es w0 W l fx rows) (q : Nat) (hq : rows[q]? = some ⟨d,e,v,xs⟩) : bf es w0 W l fx (rows.set q ⟨d,e,.slice none 0 0,[]⟩):=by
 have hql : q < rows.length:=(List.getElem?_eq_some_iff.1 hq).1
 have key : ∀ (j : Nat) (s : Row),(rows.set q ⟨d,e,.slice none 0 0,[]⟩)[j]? = some s → (j ≠ q ∧ rows[j]? = some s) ∨ (j = q ∧ s = ⟨d,e,.slice none 0 0,[]⟩):=by
  intro j s hs
  rw [List.getElem?_set] at hs
  by_cases hj : q = j
  ·subst hj
   rw [if_pos rfl,if_pos hql] at hs
   exact .inr ⟨rfl,(Option.some.inj hs).symm⟩
  ·rw [if_neg hj] at hs
   exact .inl ⟨fun h => hj h.symm,hs⟩
 refine ⟨⟨M.mem.below,M.mem.blk,M.mem.apart,fun r hr => ?_,fun i r hr => ?_⟩,M.fix,M.part⟩
 ·obtain ⟨j,hj⟩:=List.mem_iff_getElem?.1 hr
  rcases key j r hj with ⟨_,h⟩ | ⟨_,rfl⟩
  ·exact M.mem.typ r (List.mem_of_getElem? h)
  ·exact M.mem.typ ⟨d,e,v,xs⟩ (List.mem_of_getElem? hq)
 ·rcases key i r hr with ⟨hi,h⟩ | ⟨_,rfl⟩
  ·refine Kd.sJ (M.mem.owns i r h) (fun k hk j s hs hj => ?_)
   rcases key j s hs with ⟨_,h'⟩ | ⟨_,rfl⟩
   ·exact hk j s h' hj
   ·simp [Value.ownBlock]
  ·exact Kd.Sl _ _ _ _ _
theorem bf.uK {α : Type} (d : Kd α) (e : TypeId) (M : bf es w0 W l fx rows) (ht : ∀ q,q ∈ e :: d.E → q ∈ es) : bf es w0 W l fx (rows ++ [⟨d,e,.slice none 0 0,[]⟩]):=by
 have key : ∀ (j : Nat) (s : Row),(rows ++ [(⟨d,e,.slice none 0 0,[]⟩ : Row)])[j]? = some s → (rows[j]? = some s ∧ j < rows.length) ∨ (j = rows.length ∧ s = ⟨d,e,.slice none 0 0,[]⟩):=by
  intro j s hs
  rcases Nat.lt_trichotomy j rows.length with h | h | h
  ·rw [List.getElem?_append_left h] at hs; exact .inl ⟨hs,h⟩
  ·subst h; simp at hs; exact .inr ⟨rfl,hs.symm⟩
  ·rw [List.getElem?_eq_none (by simp; omega)] at hs; cases hs
 refine ⟨⟨M.mem.below,M.mem.blk,M.mem.apart,fun r hr => ?_,fun i r hr => ?_⟩,M.fix,M.part⟩
 ·rcases List.mem_append.1 hr with hr | hr
  ·exact M.mem.typ r hr
  ·rw [List.mem_singleton] at hr; subst hr; exact ht
 ·rcases key i r hr with ⟨h,_⟩ | ⟨_,rfl⟩
  ·refine Kd.sJ (M.mem.owns i r h) (fun k hk j s hs hj => ?_)
   rcases key j s hs with ⟨h',_⟩ | ⟨_,rfl⟩
   ·exact hk j s h' hj
   ·simp [Value.ownBlock]
  ·exact Kd.Sl _ _ _ _ _
theorem fM {κ : Type} [DecidableEq κ] {enc : κ → Value} {f : κ → Option Int} {k : TypeId} {n g : Nat} {ob : Obj} (M : ah (bf es w0 W l fx rows)) (i : Nat) (hi : fx[i]? = some (g,ob)) (hm : uf P k n ob enc f) (K : Maps.Keyed P k) (hinj : ∀ x y,enc x = enc y → x = y) {t : TypeId} (ht : P.underlying t = some (.map k 3)) (hu3 : P.underlying 3 = some (.int .i64))
  (hn : n < maxLen) (x : κ) {kl : Lit} (hk : keyOf P k (enc x) = some kl) (v : Int) (hv : (Lit.int .i64 v).wf = true)
  (h : ∀ w' o',ah (bf es w0 w' l (fx.set i (g,o')) rows) → uf P k (n + 1) o' enc (fun y => if y = x then some v else f y) → wpList P ops Q rest (a.put o.dst undef) w')
  {m y u : Operand} (ho : o.op = .mapUpdate t m y u:=by with_reducible rfl) (hgd : o.guard = none:=by with_reducible rfl)
  (hm' : a.eval m = .map (some g):=by first | rfl | (go_simp; done) | (go_simp; rfl)) (hx : a.eval y = enc x:=by first | rfl | (go_simp; done) | (go_simp; rfl)) (hu : a.eval u = .int .i64 v:=by first | rfl | (go_simp; done) | (go_simp; rfl)) :
  wpList P ops Q (o :: rest) a W:=by
 refine wpList_plain hgd fun K' hK' => ?_
 obtain ⟨w',o',hrun,hat,hg,hm1⟩:=hm.update K hinj ht hu3 (M.out.fix i _ hi).1 hn x hk v hv
 have M1:=M.out.turned i hi hg hat hm1.Nr
 unfold Oper.wp
 simp [execOp,ho,hm',hx,hu,hrun,Result.andThen]
 exact hK' _ _ (h w' o' ⟨M1⟩ hm1)
end
end Go.Proofs.YtdbpglhdicmhhaaGreatDoor.iM
end

section
namespace Go.Proofs.YtdbpglhdicmhhaaGreatDoor.qp
open Go.RowKit Go.Shelf Go.Proofs.YtdbpglhdicmhhaaGreatDoorW.aI Go.Proofs.YtdbpglhdicmhhaaGreatDoorW.aX Go.Proofs.YtdbpglhdicmhhaaGreatDoorW.aZ iM
open Go.Proofs.YtdbpglhdicmhhaaGreatDoor.GA
theorem QB (s : ByteArray) (i : Nat) (h : i < s.data.toList.length) : bt s (i : Int) = ((s.data.toList[i]).toNat : Int):=by
 have h2 : i < s.size:=by rw [Array.length_toList] at h; exact h
 unfold bt
 rw [Int.toNat_natCast,dif_pos h2]
 rfl
theorem Pn (b : UInt8) : gU.f (b.toNat : Int) = some (Q.letter b):=by
 have h : ∀ n,n < 256 → gU.f ((UInt8.ofNat n).toNat : Int) = some (Q.letter (UInt8.ofNat n)):=by decide +kernel
 have:=h b.toNat (UInt8.toNat_lt _)
 rwa [UInt8.ofNat_toNat] at this
theorem SV (b : UInt8) : gW.f (b.toNat : Int) = some (Q.OL b):=by
 have h : ∀ n,n < 256 → gW.f ((UInt8.ofNat n).toNat : Int) = some (Q.OL (UInt8.ofNat n)):=by decide +kernel
 have:=h b.toNat (UInt8.toNat_lt _)
 rwa [UInt8.ofNat_toNat] at this
theorem slen (s : ByteArray) : s.data.toList.length = s.size:=Array.length_toList
theorem OM (s : ByteArray) (hs : s.size ≤ 262144) : ∀ (n i m : Nat),i + n = s.size → dS.l0 (n + 1 + m) s (s.size : Int) (i : Int) = some ((s.data.toList.drop i).all Q.OL && (!s.data.toList.isEmpty))
 | 0,i,m,h => by
  rw [show 0 + 1 + m = m + 1 by omega,dS.l0,if_neg (by omega),List.drop_eq_nil_of_le (by rw [slen]; omega),ByteArray.toList_eq]
  cases s.data.toList <;> simp
 | n + 1,i,m,h => by
  have hl : i < s.data.toList.length:=by rw [slen]; omega
  rw [show n + 1 + 1 + m = (n + 1 + m) + 1 by omega,dS.l0,if_pos (by omega),if_pos (by omega),if_pos (by omega),QB s i hl,SV,List.drop_eq_getElem_cons hl,List.all_cons]
  show (if Q.OL s.data.toList[i] = true then _ else _) = _
  cases hd : Q.OL s.data.toList[i]
  ·simp
  ·rw [if_pos rfl,show wrap64 ((i : Int) + 1) = ((i + 1 : Nat) : Int) by rw [Int.natCast_add]; exact IntWalk.wrap64_in _ (by omega),OM s hs n (i + 1) m (by omega)]
   simp
theorem Em (s : ByteArray) (hs : s.size ≤ 262144) (w : World) : Calls Tryz.prog 120 #[.string s] w fun e w' => e = .returned (.bool (Q.wQ s.data.toList)) ∧ aV w w':=by
 refine dS.calls (s.size + 1 + 0) s _ w ?_
 show dS.l0 _ s (s.size : Int) 0 = _
 have:=OM s hs s.size 0 0 (by omega)
 rw [show ((0 : Nat) : Int) = 0 from rfl] at this
 rw [this,List.drop_zero]
 unfold Q.wQ
 rw [Bool.and_comm]
theorem Xy (s : ByteArray) (hs : s.size ≤ 262144) : ∀ (n i m : Nat),i + n = s.size → cZ.l0 (n + 1 + m) s (s.size : Int) (i : Int) = some ((s.data.toList.drop i).all (fun b => Q.letter b || Q.OL b))
 | 0,i,m,h => by
  rw [show 0 + 1 + m = m + 1 by omega,cZ.l0,if_neg (by omega),List.drop_eq_nil_of_le (by rw [slen]; omega)]
  rfl
 | n + 1,i,m,h => by
  have hl : i < s.data.toList.length:=by rw [slen]; omega
  rw [show n + 1 + 1 + m = (n + 1 + m) + 1 by omega,cZ.l0,if_pos (by omega),if_pos (by omega),if_pos (by omega),QB s i hl,SV,Pn,List.drop_eq_getElem_cons hl,List.all_cons]
  have hw : wrap64 ((i : Int) + 1) = ((i + 1 : Nat) : Int):=by rw [Int.natCast_add]; exact IntWalk.wrap64_in _ (by omega)
  show (if Q.letter s.data.toList[i] = true then _ else if Q.OL s.data.toList[i] = true then _ else _) = _
  rw [hw,Xy s hs n (i + 1) m (by omega)]
  cases Q.letter s.data.toList[i] <;> cases Q.OL s.data.toList[i] <;> simp
theorem jf (s : ByteArray) (hs : s.size ≤ 262144) (w : World) : Calls Tryz.prog 92 #[.string s] w fun e w' => e = .returned (.bool (Q.nameB s.data.toList)) ∧ aV w w':=by
 refine cZ.calls (s.size + 1 + 1) s _ w ?_
 unfold cZ.f
 have hj : ∀ b,cZ.j0 (s.size + 1 + 1) s b = if b = true then some false else some (s.data.toList.all (fun b => Q.letter b || Q.OL b)):=by
  intro b
  rw [cZ.j0]
  have:=Xy s hs s.size 0 0 (by omega)
  rw [show ((0 : Nat) : Int) = 0 from rfl,List.drop_zero] at this
  rw [show s.size + 1 = s.size + 1 + 0 by omega,this]
 rw [hj,ByteArray.toList_eq]
 cases hl : s.data.toList with
 | nil => rw [if_pos rfl,if_pos rfl]; rfl
 | cons c r =>
  rw [if_neg (by simp)]
  have hz : s.size = r.length + 1:=by rw [← slen,hl]; rfl
  unfold Q.nameB
  by_cases h32 : (s.size : Int) > 32
  ·rw [if_pos h32,if_pos rfl,decide_eq_false (by rw [List.length_cons]; omega)]; rfl
  ·rw [if_neg h32,if_pos (by omega)]
   have hb : bt s 0 = (c.toNat : Int):=by
    have:=QB s 0 (by rw [hl]; simp)
    rw [show ((0 : Nat) : Int) = 0 from rfl] at this
    rw [this]; simp [hl]
   rw [hb,Pn,decide_eq_true (by rw [List.length_cons]; omega)]
   rw [Option.bind_some,hj,hl]
   cases hlc : Q.letter c <;> simp [hlc]
end Go.Proofs.YtdbpglhdicmhhaaGreatDoor.qp
end

section
namespace Go.Proofs.YtdbpglhdicmhhaaGreatDoor.GA
open Go.RowKit Go.Proofs.YtdbpglhdicmhhaaGreatDoorW.aI Go.Proofs.YtdbpglhdicmhhaaGreatDoorW.aX Go.Proofs.YtdbpglhdicmhhaaGreatDoorW.aZ
def jG.l0 : Nat → List Int → Int → Int → Int → Option (Int)
 | 0,_,_,_,_ => none
 | k + 1,x0,x1,x7,x8 => if x8 < x7 then (if 0 ≤ x8 then (if x8 < (x0.length : Int) then (if x1 = (rd x0 x8) then (some x8) else (jG.l0 k x0 x1 x7 (wrap64 (x8 + 1)))) else (none)) else (none)) else (some (-1))
def jG.f (k : Nat) (l0 : List Int) (a1 : Int) : Option (Int):=jG.l0 k l0 a1 (l0.length : Int) 0
theorem jG.calls (k : Nat) (A0 : Option Addr) (c0 : Nat) (l0 : List Int) (a1 : Int) (r : Int) (w : World) (hr0 : Kd.C (Kd.int .i64) w A0 l0.length l0) (hc0 : l0.length ≤ c0) (h : jG.f k l0 a1 = some r) :
  Calls Tryz.prog 93 #[.slice A0 l0.length c0,.int .i64 a1] w fun e w' => e = .returned (.int .i64 r) ∧ aV w w':=by
 have HR0:=ah.mk hr0
 have HC0:=ah.mk hc0
 clear hr0 hc0
 have H : (jG.l0 k l0 a1 (l0.length : Int) 0) = some r:=h
 clear h
 have H':=ah.mk H
 clear H
 go_enter Tryz.func93,Tryz.ntmps93
 go_wp2
 go_loopg [8] k (fun kq v8 w' => ∃ (zM : Int),v8 = .int .i64 zM ∧ ah (jG.l0 kq l0 a1 (l0.length : Int) zM = some r) ∧ ah (kq ≤ k) ∧ aV w w')
 case atStart => exact ⟨(0),(by first | rfl | (simp; done) | (simp [*]; done)),H',⟨Nat.le_refl _⟩,by repeat (first | exact aV.refl _ | apply aV.step)⟩
 case round =>
  clear H'
  try clear p2
  obtain ⟨zM,rfl,HA,D9,⟨m1,rfl⟩⟩:=hrel
  cases gk with
  | zero => exact absurd HA.out (by simp [jG.l0])
  | succ k1 =>
   have H:=HA.out
   clear HA
   simp only [jG.l0] at H
   by_cases c3 : zM < (l0.length : Int)
   ·rw [if_pos c3] at H
    have rC : decide (zM < (l0.length : Int)) = true:=decide_eq_true c3
    clear c3
    by_cases c4 : 0 ≤ zM
    ·rw [if_pos c4] at H
     have wU : decide (0 ≤ zM) = true:=decide_eq_true c4
     clear c4
     by_cases c5 : zM < (l0.length : Int)
     ·rw [if_pos c5] at H
      have rZ : decide (zM < (l0.length : Int)) = true:=decide_eq_true c5
      clear c5
      by_cases c6 : a1 = (rd l0 zM)
      ·rw [if_pos c6] at H
       have GY : (a1 == (rd l0 zM)) = true:=beq_iff_eq.mpr c6
       have QE : (a1 != (rd l0 zM)) = false:=bne_eq_false_iff_eq.mpr c6
       clear c6
       obtain rfl:=Option.some.inj H
       have Rf : 0 ≤ (zM : Int):=of_decide_eq_true (by first | (with_reducible assumption) | assumption)
       have Rk : zM < (l0.length : Int):=of_decide_eq_true (by first | (with_reducible assumption) | assumption)
       obtain ⟨aeK,ab4,ZM⟩:=Kd.tN HR0.out zM Rf Rk
       cases ab4
       replace Rf:=eq_true Rf
       replace Rk:=eq_true Rk
       go_wp2
       go_ret
       exact ⟨by first | rfl | (simp; done) | (simp [*]; done),by repeat (first | exact aV.refl _ | apply aV.step)⟩
      ·rw [if_neg c6] at H
       have GY : (a1 == (rd l0 zM)) = false:=beq_eq_false_iff_ne.mpr c6
       have QE : (a1 != (rd l0 zM)) = true:=bne_iff_ne.mpr c6
       have H':=ah.mk H
       clear H
       have Rf : 0 ≤ (zM : Int):=of_decide_eq_true (by first | (with_reducible assumption) | assumption)
       have Rk : zM < (l0.length : Int):=of_decide_eq_true (by first | (with_reducible assumption) | assumption)
       obtain ⟨aeK,ab4,ZM⟩:=Kd.tN HR0.out zM Rf Rk
       cases ab4
       replace Rf:=eq_true Rf
       replace Rk:=eq_true Rk
       go_wp2
       go_roundg k1
       case measure => have:=D9.out; omega
       case rel => exact ⟨(wrap64 (zM + 1)),(by first | rfl | (simp; done) | (simp [*]; done)),H',⟨by have:=D9.out; omega⟩,by repeat (first | exact aV.refl _ | apply aV.step)⟩
     ·rw [if_neg c5] at H
      exact absurd H (by simp)
    ·rw [if_neg c4] at H
     exact absurd H (by simp)
   ·rw [if_neg c3] at H
    have rC : decide (zM < (l0.length : Int)) = false:=decide_eq_false c3
    clear c3
    obtain rfl:=Option.some.inj H
    go_wp2
    go_ret
    exact ⟨by first | rfl | (simp; done) | (simp [*]; done),by repeat (first | exact aV.refl _ | apply aV.step)⟩
end Go.Proofs.YtdbpglhdicmhhaaGreatDoor.GA
end

section
namespace Go.Proofs.YtdbpglhdicmhhaaGreatDoor.qp
open Go.RowKit Go.Shelf Go.Proofs.YtdbpglhdicmhhaaGreatDoorW.aI Go.Proofs.YtdbpglhdicmhhaaGreatDoorW.aX Go.Proofs.YtdbpglhdicmhhaaGreatDoorW.aZ iM
open Go.Proofs.YtdbpglhdicmhhaaGreatDoor.GA
theorem VK {w w' : World} (h : w' = w ∨ ∃ t,w' = Lib.bytesWorld w 5 t) : Below w.heap.size w w':=by
 rcases h with rfl | ⟨t,rfl⟩
 ·exact Below.refl _ _
 ·exact Lib.bytesWorld_below _ _ _
theorem gK {w w' : World} (h : aV w w') : Below w.heap.size w w':=by
 obtain ⟨n,rfl⟩:=h
 exact aj (Below.refl _ _) n
section
variable {w : World}
theorem Sz (S : Std w) (s : ByteArray) (hs : s.size ≤ 262144) (v : Int) (h : Lib.atoiAll s.data.toList = .ok v) :
  Calls Tryz.prog 121 #[.string s] w fun e w' => e = .returned (.tuple #[.int .i64 v,.nilIface]) ∧ Below w.heap.size w w' :=
 (Tryz.strconv_Atoi_ok s (by omega) v h w).mono fun e w' ⟨he,hw⟩ => ⟨he,VK hw⟩
theorem VJ (S : Std w) (s : ByteArray) (hs : s.size ≤ 262144) (h : ¬ ∃ u,Lib.atoiAll s.data.toList = .ok u) :
  Calls Tryz.prog 121 #[.string s] w fun e w' => ∃ (u : Int) (te : TypeId) (pe : Value),e = .returned (.tuple #[.int .i64 u,.iface te pe]) ∧ Below w.heap.size w w':=by
 rcases hc : Lib.atoiAll s.data.toList with u | _ | _
 ·exact absurd ⟨u,hc⟩ h
 ·obtain ⟨te,pe,hv⟩:=S.aeW
  exact (Tryz.strconv_Atoi_syntax s (by omega) hc _ w hv (.inr ⟨te,pe,rfl⟩)).mono fun e w' ⟨N,he,_,_,hb⟩ => ⟨_,_,_,he,hb⟩
 ·obtain ⟨te,pe,hv⟩:=S.aeU
  exact (Tryz.strconv_Atoi_range s (by omega) hc _ w hv (.inr ⟨te,pe,rfl⟩)).mono fun e w' ⟨N,he,_,_,hb⟩ => ⟨_,_,_,he,hb⟩
def BR (e : Int) : Int:=if e = 70 then 0 else if e = 73 then 1 else if e = 74 then 2 else if e = 72 then 3 else if e = 71 then 4 else -1
theorem Pg (A : Option Addr) (c : Nat) (e : Int) (hC : Kd.C (Kd.int .i64) w A 5 Ny) (hc : 5 ≤ c) :
  Calls Tryz.prog 93 #[.slice A 5 c,.int .i64 e] w fun z w' => z = .returned (.int .i64 (BR e)) ∧ aV w w':=by
 refine jG.calls 7 A c Ny e (BR e) w hC hc ?_
 show jG.f 7 Ny e = some (BR e)
 unfold BR
 by_cases h0 : e = 70
 ·subst h0; decide +kernel
 ·by_cases h1 : e = 73
  ·subst h1; decide +kernel
  ·by_cases h2 : e = 74
   ·subst h2; decide +kernel
   ·by_cases h3 : e = 72
    ·subst h3; decide +kernel
    ·by_cases h4 : e = 71
     ·subst h4; decide +kernel
     ·rw [if_neg h0,if_neg h1,if_neg h2,if_neg h3,if_neg h4]
      have w1 : wrap64 1 = 1:=by decide +kernel
      have w2 : wrap64 2 = 2:=by decide +kernel
      have w3 : wrap64 3 = 3:=by decide +kernel
      have w4 : wrap64 4 = 4:=by decide +kernel
      have w5 : wrap64 5 = 5:=by decide +kernel
      have r0 : rd [70,73,74,72,71] 0 = 70:=by decide +kernel
      have r1 : rd [70,73,74,72,71] 1 = 73:=by decide +kernel
      have r2 : rd [70,73,74,72,71] 2 = 74:=by decide +kernel
      have r3 : rd [70,73,74,72,71] 3 = 72:=by decide +kernel
      have r4 : rd [70,73,74,72,71] 4 = 71:=by decide +kernel
      simp [jG.f,jG.l0,Ny,w1,w2,w3,w4,w5,r0,r1,r2,r3,r4,h0,h1,h2,h3,h4]
end
@[reducible] def sB (l : List UInt8) : ByteArray:=⟨l.toArray⟩
theorem KN (l p : List UInt8) : (Lib.trimPrefix l p).length ≤ l.length:=by
 unfold Lib.trimPrefix
 split
 ·rw [List.length_drop]; omega
 ·exact Nat.le_refl _
end Go.Proofs.YtdbpglhdicmhhaaGreatDoor.qp
end
