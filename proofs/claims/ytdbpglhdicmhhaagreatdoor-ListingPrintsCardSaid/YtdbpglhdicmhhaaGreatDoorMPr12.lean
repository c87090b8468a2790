import Derived.Test.YtdbpglhdicmhhaaGreatDoorMPr7
import Derived.Test.YtdbpglhdicmhhaaGreatDoorMPr11
import Derived.Lib.AppendStr
import Derived.Lib.UnsafeStr
set_option linter.unusedVariables false
set_option linter.unusedSimpArgs false
section
namespace Go.Proofs.YtdbpglhdicmhhaaGreatDoor.iM
open Go.RowKit Go.Proofs.YtdbpglhdicmhhaaGreatDoorW.aI Go.Proofs.YtdbpglhdicmhhaaGreatDoorW.aX Go.Proofs.YtdbpglhdicmhhaaGreatDoorW.aZ
theorem Ef {T : TypeId} {B B' b : Nat} {bs : List Value} {W W1 : World} (h : Lib.IsBuilder T 5 B b bs W) (hB' : B' ≤ B) (h1 : W1.heap[b]? = W.heap[b]?) (h2 : ∀ (g : Nat) (cur : Array Value),W.heap[g]? = some (.cells cur 5 (0,0)) → W1.heap[g]? = W.heap[g]?) : Lib.IsBuilder T 5 B' b bs W1:=by
 have key : ∀ p,Lib.BuilderAt T 5 B b p bs W → Lib.BuilderAt T 5 B' b p bs W1:=fun p ⟨hB,v,hb,⟨hl,ho⟩,hne⟩ => by
  refine ⟨Nat.le_trans hB' hB,v,h1.trans hb,⟨hl,?_⟩,hne⟩
  rcases ho with ho | ⟨g,cap,cur,rfl,q1,q2,q3⟩
  ·exact .inl ho
  ·exact .inr ⟨g,cap,cur,rfl,Nat.le_trans hB' q1,(h2 g cur q2).trans q2,q3⟩
 exact h.elim (fun x => .inl (key _ x)) (fun x => .inr (key _ x))
theorem QA {T : TypeId} {B b : Nat} {bs : List Value} {W : World} (h : Lib.IsBuilder T 5 B b bs W) : b < W.heap.size:=h.elim (fun x => x.lt) (fun x => x.lt)
theorem KX {T : TypeId} {B b : Nat} {bs : List Value} {W : World} (h : Lib.IsBuilder T 5 B b bs W) : ∃ cs,W.heap[b]? = some (.cells cs T (0,0)):=h.elim (fun ⟨_,v,hb,_⟩ => ⟨_,hb⟩) (fun ⟨_,v,hb,_⟩ => ⟨_,hb⟩)
structure qx (w0 W : World) (l : List (Nat × Array Value × TypeId)) (fx : List (Nat × Obj)) (b : Nat) (s : List UInt8) : Prop where
 mem : bf [] w0 W l fx []
 Qz : Lib.IsBuilder 89 5 w0.heap.size b (Lib.byteCells s) W
 typ : ∀ x ∈ l,x.2.2 ≠ 5 ∧ x.2.2 ≠ 89
section
variable {w0 W W1 : World} {l : List (Nat × Array Value × TypeId)} {fx : List (Nat × Obj)} {b : Nat} {s : List UInt8}
theorem qx.ne (M : qx w0 W l fx b s) {x : Nat × Array Value × TypeId} (hx : x ∈ l) : x.1 ≠ b:=by
 rintro h
 obtain ⟨cs,hb⟩:=KX M.Qz
 have:=(M.mem.mem.blk x hx).1
 rw [h,hb] at this
 injection this with this
 injection this with _ this _
 exact (M.typ x hx).2 this.symm
theorem qx.call (M : qx w0 W l fx b s) (hb : Below W.heap.size W W1) : qx w0 W1 l fx b s :=
 ⟨M.mem.call hb,Ef M.Qz (Nat.le_refl _) (hb.block b (QA M.Qz)) (fun g cur hg => hb.block g (je hg)),M.typ⟩
theorem qx.forget (M : qx w0 W l fx b s) (n : Nat) : qx w0 W (l.take n) fx b s:=⟨M.mem.forget n,M.Qz,fun x hx => M.typ x (List.mem_of_mem_take hx)⟩
theorem qx.below (M : qx w0 W l fx b s) : Below w0.heap.size w0 W:=M.mem.mem.below
theorem qx.wrote {s' : List UInt8} (M : qx w0 W l fx b s) (hI : Lib.IsBuilder 89 5 w0.heap.size b (Lib.byteCells s') W1) (hb : Below w0.heap.size W W1) (hk : Lib.OthersKept 5 (some b) W W1) : qx w0 W1 l fx b s':=by
 have b0:=M.mem.mem.below
 refine ⟨⟨⟨⟨hb.os.trans b0.os,hb.tape.trans b0.tape,hb.output.trans b0.output,Nat.le_trans b0.size hb.size,fun j hj => (hb.block j hj).trans (b0.block j hj)⟩,fun x hx => ?_,M.mem.mem.apart,(fun r hr => by cases hr),(fun i r hr => by simp at hr)⟩,fun i x hx => ?_,M.mem.part⟩,hI,M.typ⟩
 ·have h:=M.mem.mem.blk x hx
  refine ⟨hk x.1 _ h.1 (fun he => M.ne hx (Option.some.inj he)) ?_,h.2⟩
  intro c fz hc
  injection hc with _ hc _
  exact (M.typ x hx).1 hc
 ·have h:=M.mem.fix i x hx
  refine ⟨hk x.1 _ h.1 (fun he => ?_) (fun c fz hc => h.2.2 _ _ _ hc),h.2⟩
  obtain ⟨cs,hb⟩:=KX M.Qz
  rw [Option.some.inj he] at h
  exact h.2.2 _ _ _ (Option.some.inj (h.1.symm.trans hb))
theorem qx.made (M : bf [] w0 W l fx []) (ht : ∀ x ∈ l,x.2.2 ≠ 5 ∧ x.2.2 ≠ 89) : qx w0 (W.alloc (.cells #[.pointer none,.slice none 0 0] 89)) l fx W.heap.size [] :=
 ⟨M.call (ak (Below.refl _ _) _),Ef (Lib.fresh_isBuilder 89 5 W) (bV M.mem.below) rfl (fun _ _ _ => rfl),ht⟩
theorem qx.map (M : qx w0 W l fx b s) (o : Obj) (hn : Ba o) : qx w0 (W.alloc o) l (fx ++ [(W.heap.size,o)]) b s :=
 ⟨M.mem.made o hn,(M.call (ak (Below.refl _ _) o)).Qz,M.typ⟩
theorem qx.turned (M : qx w0 W l fx b s) (i : Nat) {g : Nat} {o o' : Obj} (hi : fx[i]? = some (g,o)) (hg : W.grownBy W1 (some g)) (ho : W1.heap[g]? = some o') (hn : Ba o') : qx w0 W1 l (fx.set i (g,o')) b s:=by
 have h0:=M.mem.fix i _ hi
 refine ⟨M.mem.turned i hi hg ho hn,Ef M.Qz (Nat.le_refl _) (hg.block b (QA M.Qz) (fun he => ?_)) (fun k cur hc => hg.block k (je hc) (fun he => ?_)),M.typ⟩
 ·obtain ⟨cs,hb⟩:=KX M.Qz
  injection he with he
  subst he
  exact h0.2.2 _ _ _ (Option.some.inj (h0.1.symm.trans hb))
 ·injection he with he
  subst he
  exact h0.2.2 _ _ _ (Option.some.inj (h0.1.symm.trans hc))
end
section
variable {P : Program} {ops : Array Oper} {rest : List Oper} {o : Oper} {a : Act} {Q : Exit → Act → World → Prop} {w0 W : World} {l : List (Nat × Array Value × TypeId)} {fx : List (Nat × Obj)} {b : Nat} {s : List UInt8}
theorem bB (M : ah (qx w0 W l fx b s)) (N : Tmp) (cs : Array Value) (t : TypeId)
  (h : ∀ g w1,ah (qx w0 w1 (l ++ [(g,cs,t)]) fx b s) → wpList P ops Q rest (a.put o.dst (.pointer (some ⟨g,0,none⟩))) w1)
  (hd : o.dst = some N:=by with_reducible rfl) (hgd : o.guard = none:=by with_reducible rfl) (ht : t ≠ 5 ∧ t ≠ 89:=by decide)
  (hr : (execOp a.eval o).run P W = .ok (.value (.pointer (some ⟨W.heap.size,0,none⟩))) (W.alloc (.cells cs t (0,0))):=by first | (go_simp; done) | (go_simp; rfl)) :
  wpList P ops Q (o :: rest) a W :=
 dV hgd hd hr fun g hg w1 hbox hb => h g w1 ⟨⟨Mem.box M.out.mem.mem hg hbox hb (by simp),(M.out.mem.call hb).fix,M.out.mem.part⟩,(M.out.call hb).Qz,fun x hx => by
  rcases List.mem_append.1 hx with hx | hx
  ·exact M.out.typ x hx
  ·rw [List.mem_singleton] at hx; subst hx; exact ht⟩
theorem aai {l : List (Nat × Array Value × TypeId)} (h : ∀ x ∈ l,x.2.2 ≠ 5 ∧ x.2.2 ≠ 89) {i g : Nat} {old new : Array Value} {tb : TypeId} (hi : l[i]? = some (g,old,tb)) : ∀ x ∈ l.set i (g,new,tb),x.2.2 ≠ 5 ∧ x.2.2 ≠ 89:=fun x hx => by
 rcases List.mem_or_eq_of_mem_set hx with hx | rfl
 ·exact h x hx
 ·exact h (g,old,tb) (List.mem_of_getElem? hi)
theorem YI {W' : World} (M : qx w0 W l fx b s) {i g : Nat} {old : Array Value} {tb : TypeId} (hi : l[i]? = some (g,old,tb)) (hk : eu W W' g none) : Lib.IsBuilder 89 5 w0.heap.size b (Lib.byteCells s) W':=by
 have hx:=List.mem_of_getElem? hi
 refine Ef M.Qz (Nat.le_refl _) (hk.2 b (QA M.Qz) (fun e => M.ne hx e.symm) (by simp)) (fun k cur hc => hk.2 k (je hc) (fun e => ?_) (by simp))
 subst e
 have:=(M.mem.mem.blk _ hx).1
 rw [hc] at this
 injection this with this
 injection this with _ this _
 exact (M.typ _ hx).1 this.symm
theorem bR (M : ah (qx w0 W l fx b s)) (t : TypeId) (p : Tmp) (i : Nat) (new : Array Value) {g : Nat} {old : Array Value} {tb : TypeId} {x : Operand}
  (h : ∀ w',ah (qx w0 w' (l.set i (g,new,tb)) fx b s) → wpList P ops Q rest a w')
  (ho : o.op = .store t (.tmp p) x:=by with_reducible rfl) (hn : o.dst = none:=by with_reducible rfl) (hgd : o.guard = none:=by with_reducible rfl)
  (hi : l[i]? = some (g,old,tb):=by rfl) (hx : a.eval (.tmp p) = .pointer (some ⟨g,0,none⟩):=by rfl) (hv : a.eval x = .agg new:=by first | rfl | (go_simp; done) | (go_simp; rfl))
  (hs : (P.info? t).map (·.size) = some new.size:=by kernel_rfl) (hso : old.size = new.size:=by rfl) (h1 : new.all (·.oneCell') = true:=by kernel_rfl) :
  wpList P ops Q (o :: rest) a W :=
 CY hgd ho hn g old new hx hv (M.out.mem.mem.at i hi) hs hso h1 fun w' hn' hk hb => h w' ⟨M.out.mem.other (Mem.keep M.out.mem.mem i hi hn' hk (hb w0 M.out.mem.mem.below (M.out.mem.mem.ge i hi))) (fun q y hy => hk.2 y.1 (jk (M.out.mem.fix q y hy).1) (M.out.mem.FZ i q hi hy) (by simp)),YI M.out hi hk,aai M.out.typ hi⟩
end
theorem DZ {H : Type} {P : Program} {e : TypeId} (he : P.underlying e = some .bool) {v : Value} {z : DataW H × List MemPlace} (h : plainElem P e v = some z) : ∃ x,v = .bool x ∧ z = (.lit (.bool x),[]):=by
 unfold plainElem at h
 rw [he] at h
 cases v <;> simp at h
 obtain rfl:=h
 exact ⟨_,rfl,rfl⟩
def wz (P : Program) (k e : TypeId) (n : Nat) (o : Obj) {κ : Type} (enc : κ → Value) (f : κ → Bool) : Prop :=
 (∃ es ck,o = .map es ck) ∧ ∃ D : DataW Unit,(∀ (W : World) (g : Nat),W.heap[g]? = some o → W.ownsMap P k (plainElem P e) g n D) ∧
  ∀ (x : κ) (kl : Lit),keyOf P k (enc x) = some kl → D.atKey kl (.lit (.bool false)) = .lit (.bool (f x))
section
variable {P : Program} {k e : TypeId} {n : Nat} {o : Obj} {κ : Type} {enc : κ → Value} {f : κ → Bool}
theorem wz.Nr (h : wz P k e n o enc f) : Ba o:=by
 obtain ⟨⟨es,ck,rfl⟩,_⟩:=h
 intro cs t f h; cases h
theorem wz.empty (P : Program) (k e : TypeId) {κ : Type} (enc : κ → Value) : wz P k e 0 (.map #[] 0) enc (fun _ => false):=by
 refine ⟨⟨_,_,rfl⟩,.map [],fun W g h => ?_,fun x kl h => rfl⟩
 obtain ⟨es,ck,h1,h2,h3,h4⟩:=World.ownsMap_made (H:=Unit) W P k (plainElem P e)
 rw [(MapKept.heap_alloc W _).1] at h1
 injection h1 with h1
 injection h1 with e1 e2
 subst e1; subst e2
 exact ⟨#[],0,h,h2,h3,h4⟩
theorem wz.mono (h : wz P k e n o enc f) {m : Nat} (hm : n ≤ m) : wz P k e m o enc f:=by
 obtain ⟨h0,D,h1,h2⟩:=h
 exact ⟨h0,D,fun W g hg => (h1 W g hg).mono hm,h2⟩
theorem wz.look {t : TypeId} (h : wz P k e n o enc f) (K : Maps.Keyed P k) (ht : P.underlying t = some (.map k e)) (hue : P.underlying e = some .bool) {W : World} {g : Nat} (hg : W.heap[g]? = some o)
  (hz : (zeroValue e).run P W = .ok (.bool false) W) (x : κ) {kl : Lit} (hk : keyOf P k (enc x) = some kl) :
  (Instr.lookup t (.map (some g)) (enc x) false).run P W = .ok (.bool (f x)) W:=by
 obtain ⟨_,D,h1,h2⟩:=h
 obtain ⟨v,ps,hrun,hv⟩:=(h1 W g hg).lookup K ht hz (plainElem_bool hue false) hk
 obtain ⟨c,rfl,hc⟩:=DZ hue hv
 have:=h2 x kl hk
 simp only [Prod.mk.injEq] at hc
 rw [hc.1] at this
 injection this with this
 injection this with this
 rw [hrun,this]
theorem wz.update [DecidableEq κ] {t : TypeId} (h : wz P k e n o enc f) (K : Maps.Keyed P k) (hinj : ∀ x y,enc x = enc y → x = y) (ht : P.underlying t = some (.map k e)) (hue : P.underlying e = some .bool) {W : World} {g : Nat} (hg : W.heap[g]? = some o)
  (hn : n < maxLen) (x : κ) {kl : Lit} (hk : keyOf P k (enc x) = some kl) :
  ∃ W1 o1,(Instr.mapUpdate t (.map (some g)) (enc x) (.bool true)).run P W = .ok () W1 ∧ W1.heap[g]? = some o1 ∧ W.grownBy W1 (some g) ∧ wz P k e (n + 1) o1 enc (fun y => decide (y = x) || f y):=by
 obtain ⟨⟨es0,ck0,rfl⟩,D,h1,h2⟩:=h
 obtain ⟨W1,hrun,hown1,hgr⟩:=(h1 W g hg).update K ht hn hk (plainElem_bool (H:=Unit) hue true)
 have hmap : Maps.IsMap D:=by
  obtain ⟨es,ck,_,_,_,rfl⟩:=h1 W g hg
  exact ⟨_,rfl⟩
 obtain ⟨es,ck,e1,e2,e3,e4⟩:=hown1
 refine ⟨W1,_,hrun,e1,hgr,⟨⟨es,ck,rfl⟩,_,fun W' g' hg' => ⟨es,ck,hg',e2,e3,e4⟩,fun y kl' hy => ?_⟩⟩
 by_cases hyx : y = x
 ·subst hyx
  rw [hk] at hy
  obtain rfl:=Option.some.inj hy
  rw [Maps.atKey_put_same hmap (K.key hk)]; simp
 ·have hne : kl' ≠ kl:=fun he => hyx (hinj _ _ (K.inj (he ▸ hy) hk))
  rw [Maps.atKey_put_other hne,h2 y kl' hy]
  simp [hyx]
end
section
variable {P : Program} {ops : Array Oper} {rest : List Oper} {o : Oper} {a : Act} {Q : Exit → Act → World → Prop} {w0 W : World} {l : List (Nat × Array Value × TypeId)} {fx : List (Nat × Obj)} {b : Nat} {s : List UInt8}
theorem bNew (M : ah (bf [] w0 W l fx [])) (N : Tmp) (ht : ∀ x ∈ l,x.2.2 ≠ 5 ∧ x.2.2 ≠ 89)
  (h : ∀ g w1,ah (qx w0 w1 l fx g []) → wpList P ops Q rest (a.put o.dst (.pointer (some ⟨g,0,none⟩))) w1)
  (hd : o.dst = some N:=by with_reducible rfl) (hgd : o.guard = none:=by with_reducible rfl)
  (hr : (execOp a.eval o).run P W = .ok (.value (.pointer (some ⟨W.heap.size,0,none⟩))) (W.alloc (.cells #[.pointer none,.slice none 0 0] 89 (0,0))):=by first | (go_simp; done) | (go_simp; rfl)) :
  wpList P ops Q (o :: rest) a W :=
 Kd.vK hgd hr (h _ _ ⟨qx.made M.out ht⟩)
theorem bMk (M : ah (qx w0 W l fx b s)) (h : ∀ g w1,ah (qx w0 w1 l (fx ++ [(g,.map #[] 0)]) b s) → wpList P ops Q rest (a.put o.dst (.map (some g))) w1)
  {t : TypeId} (hop : o.op = .makeMap t none:=by with_reducible rfl) (hg : o.guard = none:=by with_reducible rfl) :
  wpList P ops Q (o :: rest) a W:=by
 refine wpList_plain hg fun K hK' => ?_
 unfold Oper.wp
 simp only [execOp,hop,Option.map_none,run_makeMap,Result.andThen]
 exact hK' _ _ (h W.heap.size _ ⟨M.out.map _ (fun cs t f h => by cases h)⟩)
theorem bM {κ : Type} [DecidableEq κ] {enc : κ → Value} {f : κ → Bool} {k e : TypeId} {n g : Nat} {ob : Obj} (M : ah (qx w0 W l fx b s)) (i : Nat) (hi : fx[i]? = some (g,ob)) (hm : wz P k e n ob enc f) (K : Maps.Keyed P k) (hinj : ∀ x y,enc x = enc y → x = y) {t : TypeId} (ht : P.underlying t = some (.map k e)) (hue : P.underlying e = some .bool)
  (hn : n < maxLen) (x : κ) {kl : Lit} (hk : keyOf P k (enc x) = some kl)
  (h : ∀ w' o',ah (qx w0 w' l (fx.set i (g,o')) b s) → wz P k e (n + 1) o' enc (fun y => decide (y = x) || f y) → wpList P ops Q rest (a.put o.dst undef) w')
  {m y u : Operand} (ho : o.op = .mapUpdate t m y u:=by with_reducible rfl) (hgd : o.guard = none:=by with_reducible rfl)
  (hm' : a.eval m = .map (some g):=by first | rfl | (go_simp; done) | (go_simp; rfl)) (hx : a.eval y = enc x:=by first | rfl | (go_simp; done) | (go_simp; rfl)) (hu : a.eval u = .bool true:=by first | rfl | (go_simp; done) | (go_simp; rfl)) :
  wpList P ops Q (o :: rest) a W:=by
 refine wpList_plain hgd fun K' hK' => ?_
 obtain ⟨w',o',hrun,hat,hg,hm1⟩:=hm.update K hinj ht hue (M.out.mem.fix i _ hi).1 hn x hk
 have M1:=M.out.turned i hi hg hat hm1.Nr
 unfold Oper.wp
 simp [execOp,ho,hm',hx,hu,hrun,Result.andThen]
 exact hK' _ _ (h w' o' ⟨M1⟩ hm1)
end
end Go.Proofs.YtdbpglhdicmhhaaGreatDoor.iM
end

section
namespace Go.Proofs.YtdbpglhdicmhhaaGreatDoor.iM
open Go.RowKit Go.Proofs.YtdbpglhdicmhhaaGreatDoorW.aI Go.Proofs.YtdbpglhdicmhhaaGreatDoorW.aX Go.Proofs.YtdbpglhdicmhhaaGreatDoorW.aZ Go.Proofs.YtdbpglhdicmhhaaGreatDoor.qp
theorem P5 {B B' n : Nat} {v : Value} {bs : List Value} {W W1 : World} (h : W.ownsRow B 5 1 v n bs) (hB : B' ≤ B) (h2 : ∀ (g : Nat) (cur : Array Value),W.heap[g]? = some (.cells cur 5 (0,0)) → W1.heap[g]? = W.heap[g]?) : W1.ownsRow B' 5 1 v n bs:=by
 refine ⟨h.1,?_⟩
 rcases h.2 with ho | ⟨g,cap,cur,rfl,q1,q2,q3⟩
 ·exact .inl ho
 ·exact .inr ⟨g,cap,cur,rfl,Nat.le_trans hB q1,(h2 g cur q2).trans q2,q3⟩
structure jo (w0 W : World) (l : List (Nat × Array Value × TypeId)) (v : Value) (s : List UInt8) : Prop where
 mem : bf [] w0 W l [] []
 row : W.ownsRow w0.heap.size 5 1 v s.length (Lib.byteCells s)
 typ : ∀ x ∈ l,x.2.2 ≠ 5
section
variable {w0 W W1 : World} {l : List (Nat × Array Value × TypeId)} {v : Value} {s : List UInt8}
theorem jo.start (w0 : World) : jo w0 w0 [] (.slice none 0 0) []:=⟨bf.start [] w0,⟨rfl,.inl ⟨rfl,rfl⟩⟩,fun x hx => by cases hx⟩
theorem jo.call (M : jo w0 W l v s) (hb : Below W.heap.size W W1) : jo w0 W1 l v s :=
 ⟨M.mem.call hb,P5 M.row (Nat.le_refl _) (fun g cur hg => hb.block g (je hg)),M.typ⟩
theorem jo.forget (M : jo w0 W l v s) (n : Nat) : jo w0 W (l.take n) v s:=⟨M.mem.forget n,M.row,fun x hx => M.typ x (List.mem_of_mem_take hx)⟩
theorem jo.below (M : jo w0 W l v s) : Below w0.heap.size w0 W:=M.mem.mem.below
theorem jo.ne (M : jo w0 W l v s) {x : Nat × Array Value × TypeId} (hx : x ∈ l) : some x.1 ≠ v.ownBlock:=by
 intro h
 rcases M.row.2 with ⟨rfl,_⟩ | ⟨g,cap,cur,rfl,_,q2,_⟩
 ·cases h
 ·injection h with h
  have:=(M.mem.mem.blk x hx).1
  rw [h] at this
  have e:=q2.symm.trans this
  injection e with e
  injection e with _ e _
  exact M.typ x hx e.symm
theorem jo.base (M : jo w0 W l v s) : ∀ k,v.ownBlock = some k → w0.heap.size ≤ k:=by
 intro k hk
 rcases M.row.2 with ⟨rfl,_⟩ | ⟨g,cap,cur,rfl,q1,_⟩
 ·cases hk
 ·injection hk with hk; subst hk; exact q1
theorem jo.wrote {v' : Value} {s' : List UInt8} (M : jo w0 W l v s) (hr : W1.ownsRow w0.heap.size 5 1 v' s'.length (Lib.byteCells s')) (hg : W.grownBy W1 v.ownBlock) : jo w0 W1 l v' s':=by
 have b0:=M.mem.mem.below
 refine ⟨⟨⟨b0.grown hg b0.size M.base,fun x hx => ?_,M.mem.mem.apart,(fun r hr => by cases hr),(fun i r hr => by simp at hr)⟩,fun i x hx => by simp at hx,M.mem.part⟩,hr,M.typ⟩
 have h:=M.mem.mem.blk x hx
 exact ⟨(hg.block x.1 (jk h.1) (M.ne hx)).trans h.1,h.2⟩
end
section
variable {P : Program} {ops : Array Oper} {rest : List Oper} {o : Oper} {a : Act} {Q : Exit → Act → World → Prop} {w0 W : World} {l : List (Nat × Array Value × TypeId)} {v : Value} {s : List UInt8}
theorem ajz (M : ah (bf [] w0 W l [] [])) (ht : ∀ x ∈ l,x.2.2 ≠ 5)
  (h : ∀ v w1,ah (jo w0 w1 l v []) → wpList P ops Q rest (a.put o.dst v) w1)
  (hgd : o.guard = none:=by with_reducible rfl)
  (hr : (execOp a.eval o).run P W = .ok (.value (.slice (some ⟨W.heap.size,0,none⟩) 0 0)) (W.alloc (.cells #[] 5 (0,0))):=by first | (go_simp; done) | (go_simp; rfl)) :
  wpList P ops Q (o :: rest) a W:=by
 refine Kd.vK hgd hr (h _ _ ⟨M.out.call (ak (Below.refl _ _) _),⟨rfl,.inr ⟨W.heap.size,0,#[],rfl,M.out.mem.below.size,heap_alloc_new W _,Nat.le_refl _,by decide,rfl,rfl⟩⟩,ht⟩)
theorem yB (M : ah (jo w0 W l v s)) (N : Tmp) (cs : Array Value) (t : TypeId)
  (h : ∀ g w1,ah (jo w0 w1 (l ++ [(g,cs,t)]) v s) → wpList P ops Q rest (a.put o.dst (.pointer (some ⟨g,0,none⟩))) w1)
  (hd : o.dst = some N:=by with_reducible rfl) (hgd : o.guard = none:=by with_reducible rfl) (ht : t ≠ 5:=by decide)
  (hr : (execOp a.eval o).run P W = .ok (.value (.pointer (some ⟨W.heap.size,0,none⟩))) (W.alloc (.cells cs t (0,0))):=by first | (go_simp; done) | (go_simp; rfl)) :
  wpList P ops Q (o :: rest) a W :=
 dV hgd hd hr fun g hg w1 hbox hb => h g w1 ⟨⟨Mem.box M.out.mem.mem hg hbox hb (by simp),(M.out.mem.call hb).fix,M.out.mem.part⟩,(M.out.call hb).row,fun x hx => by
  rcases List.mem_append.1 hx with hx | hx
  ·exact M.out.typ x hx
  ·rw [List.mem_singleton] at hx; subst hx; exact ht⟩
theorem yR (M : ah (jo w0 W l v s)) (t : TypeId) (p : Tmp) (i : Nat) (new : Array Value) {g : Nat} {old : Array Value} {tb : TypeId} {x : Operand}
  (h : ∀ w',ah (jo w0 w' (l.set i (g,new,tb)) v s) → wpList P ops Q rest a w')
  (ho : o.op = .store t (.tmp p) x:=by with_reducible rfl) (hn : o.dst = none:=by with_reducible rfl) (hgd : o.guard = none:=by with_reducible rfl)
  (hi : l[i]? = some (g,old,tb):=by rfl) (hx : a.eval (.tmp p) = .pointer (some ⟨g,0,none⟩):=by rfl) (hv : a.eval x = .agg new:=by first | rfl | (go_simp; done) | (go_simp; rfl))
  (hs : (P.info? t).map (·.size) = some new.size:=by kernel_rfl) (hso : old.size = new.size:=by rfl) (h1 : new.all (·.oneCell') = true:=by kernel_rfl) :
  wpList P ops Q (o :: rest) a W :=
 CY hgd ho hn g old new hx hv (M.out.mem.mem.at i hi) hs hso h1 fun w' hn' hk hb => h w' ⟨M.out.mem.other (Mem.keep M.out.mem.mem i hi hn' hk (hb w0 M.out.mem.mem.below (M.out.mem.mem.ge i hi))) (fun q y hy => by simp at hy),
  P5 M.out.row (Nat.le_refl _) (fun k cur hc => hk.2 k (je hc) (fun e => by
   subst e
   have:=(M.out.mem.mem.blk _ (List.mem_of_getElem? hi)).1
   rw [hc] at this
   injection this with this
   injection this with _ this _
   exact M.out.typ _ (List.mem_of_getElem? hi) this.symm) (by simp)),
  fun x hx => by
   rcases List.mem_or_eq_of_mem_set hx with hx | rfl
   ·exact M.out.typ x hx
   ·exact M.out.typ (g,old,tb) (List.mem_of_getElem? hi)⟩
theorem yA (M : ah (jo w0 W l v s)) (N : Tmp) (y : ByteArray) (s' : List UInt8) (hy : s ++ y.data.toList = s') (hl : s'.length ≤ 140737488355328)
  (h : ∀ v' w1,ah (jo w0 w1 l v' s') → wpList P ops Q rest (a.put o.dst v') w1)
  {sl x : Operand} {t u : TypeId} (ho : o.op = .call { callee:=.builtin .append,args:=#[sl,x],argTypes:=#[t,u] }:=by with_reducible rfl) (hd : o.dst = some N:=by with_reducible rfl) (hgd : o.guard = none:=by with_reducible rfl)
  (ht : P.underlying t = some (.slice 5):=by kernel_rfl) (hu : P.underlying u = some .string:=by kernel_rfl) (hinfo : (P.info? 5).map (fun i => (i.zero,i.size,i.bytes)) = some (some (.int .u8 0),1,1):=by kernel_rfl)
  (hs : a.eval sl = v:=by rfl) (hx : a.eval x = .string y:=by rfl) : wpList P ops Q (o :: rest) a W:=by
 obtain ⟨i0,hi,hzz⟩:=Option.map_eq_some_iff.1 hinfo
 simp only [Prod.mk.injEq] at hzz
 have hn : s.length + y.size = s'.length:=by rw [← hy,List.length_append,Array.length_toList]; rfl
 refine Lib.wpList_append_own_string W hgd sl x t u ho w0.heap.size 5 i0 ht hu hi hzz.1 hzz.2.1 hzz.2.2 v s.length _ hs M.out.row y hx (by simp only [maxLen]; omega) (by omega) M.out.below.size ?_
 intro v1 w1 hown hg _
 refine h v1 w1 ⟨M.out.wrote ?_ hg⟩
 rw [hn,Lib.strCells_eq,← Lib.byteCells_append,hy] at hown
 exact hown
theorem yO (M : ah (jo w0 W l v s)) (N : Tmp) (b : UInt8) (u : Int) (hl : s.length + 1 ≤ 140737488355328)
  (h : ∀ v' w1,ah (jo w0 w1 l v' (s ++ [b])) → wpList P ops Q rest (a.put o.dst v') w1) (hub : u = (b.toNat : Int))
  {sl x : Operand} {t : TypeId} (ho : o.op = .call { callee:=.builtin .append,args:=#[sl,x],argTypes:=#[t,t] }:=by with_reducible rfl) (hd : o.dst = some N:=by with_reducible rfl) (hgd : o.guard = none:=by with_reducible rfl)
  (ht : P.underlying t = some (.slice 5):=by kernel_rfl) (hinfo : (P.info? 5).map (fun i => (i.zero,i.size,i.bytes)) = some (some (.int .u8 0),1,1):=by kernel_rfl)
  (hs : a.eval sl = v:=by rfl) (hx : a.eval x = .slice (some ⟨W.heap.size,0,none⟩) 1 1:=by rfl) : wpList P ops Q (o :: rest) a (W.alloc (.cells #[.int .u8 u] 5)):=by
 subst hub
 obtain ⟨i0,hi,hzz⟩:=Option.map_eq_some_iff.1 hinfo
 simp only [Prod.mk.injEq] at hzz
 have M1:=M.out.call (ak (Below.refl W.heap.size W) (.cells #[.int .u8 (b.toNat : Int)] 5))
 refine wpList_plain hgd fun K hK => ?_
 obtain ⟨v',w',hr,h2,h3,h4⟩:=run_append_own (P:=P) (W.alloc (.cells #[.int .u8 (b.toNat : Int)] 5)) w0.heap.size t o.type 5 i0 (.int .u8 0) 1 1 ht hi hzz.1 hzz.2.1 hzz.2.2 rfl (by decide) v s.length _ M1.row ⟨W.heap.size,0,none⟩ 1 1 [.int .u8 (b.toNat : Int)] rfl (cell_one_new W _ 5) (by simp; rfl) (by simp only [maxLen]; omega) (by omega) M1.below.size
 unfold Oper.wp execOp
 simp only [ho,resolve,invoke,builtin,Sem.run_bind,Sem.run_pure,Result.andThen_ok,List.map_toArray,List.map_cons,List.map_nil,hs,hx,hr]
 refine hK _ _ (h v' w' ⟨M1.wrote ?_ h3⟩)
 rw [List.length_append,Lib.byteCells_append]
 exact h2
theorem ajA (M : ah (jo w0 W l v s)) (N : Tmp) (h : wpList P ops Q rest (a.put o.dst (.string ⟨s.toArray⟩)) W)
  {src dst e : TypeId} {x : Operand} (ho : o.op = .convert src dst x:=by with_reducible rfl) (hd : o.dst = some N:=by with_reducible rfl) (hgd : o.guard = none:=by with_reducible rfl)
  (hs : P.underlying src = some (.slice e):=by kernel_rfl) (he : P.underlying e = some (.int .u8):=by kernel_rfl) (hdd : P.underlying dst = some .string:=by kernel_rfl) (hx : a.eval x = v:=by rfl) : wpList P ops Q (o :: rest) a W:=by
 have e1 : Lib.byteCells s = nums .u8 (s.map fun b => (b.toNat : Int)):=by simp [Lib.byteCells,nums]
 have e2 : strOfNums (s.map fun b => (b.toNat : Int)) = ⟨s.toArray⟩:=by
  unfold strOfNums
  congr 1
  apply Array.toList_inj.1
  simp [Function.comp_def]
 have hr:=M.out.row
 rw [e1] at hr
 have hc:=xQ (dst:=dst) hs he hdd hr
 rw [e2] at hc
 refine Kd.vK (v:=.string ⟨s.toArray⟩) (w1:=W) hgd ?_ h
 unfold execOp
 simp only [ho,hx,Sem.run_bind,hc,Result.andThen_ok,Sem.run_pure]
theorem jo.len (M : jo w0 W l v s) : ∃ A c,v = .slice A s.length c:=UY M.row
end
section
variable {P : Program} {md : Region.Mode} {ops : Array Oper} {o : Oper} {a : Act} {Q : Exit → Act → World → Prop} {w w0 : World} {l : List (Nat × Array Value × TypeId)} {v : Value} {s : List UInt8} {K : List (Addr × Value)} {fuel : Nat} {listed : Array Bool} {ds : List Nat}
theorem N9 {id : Nat} (ds : List Nat) (K : List (Addr × Value)) (M : ah (jo w0 w l v s)) (hK : Know K w)
  (h : ∀ W',ah (jo w0 W' l v s) → ah (Know K W') → bJ P .any ops (NoPanic Q) (Know K) ds ops.size (Array.replicate ops.size false) a W')
  (hm : P.follows .mixedOrders = true:=by kernel_rfl) : (Code.region id ops true).wp P Q a w:=by
 refine wp_region_noPanic ?_
 have h1 : Know K w.drew:=hK.below (qC (Below.refl _ _))
 exact sQ hm h1 (fun h2 => h _ ⟨M.out.call (qC (Below.refl _ _))⟩ ⟨h1⟩)
theorem kKc (HK : ah (Know K w)) (i : Nat) (N : Tmp) {f : FuncId} {fn : Func} (hfn : P.funcs[f]? = some fn) (args : Array Value) (u : Value) {az : Array Operand} {ts : Array TypeId} {rs : List Nat}
  (h : Calls P f args w fun e w' => e = .returned u ∧ Below w.heap.size w w')
  (hk : ∀ w',Below w.heap.size w w' → ah (Know K w') → bJ P md ops Q (Know K) ds fuel (listed.setIfInBounds i true) (a.put (some N) u) w')
  (hrest : aK P md ops Q (Know K) ds fuel listed a w rs)
  (hoi : ops[i]? = some o:=by rfl) (hN : o.dst = some N:=by rfl) (hw : Region.wanted o (yielded ops a.tmps) = true:=by rfl) (hd : i ∉ ds:=by decide)
  (hop : o.op = .call { callee := .value (.func f), args := az, argTypes := ts } := by rfl) (hname : (fn.name == "runtime.NumGoroutine") = false := by kernel_rfl) (hb : fn.body.isSome = true := by rfl)
  (hargs : az.map a.eval = args:=by first | rfl | (simp only [List.map_toArray,List.map_cons,List.map_nil]; done) | (simp only [List.map_toArray,List.map_cons,List.map_nil]; rfl) | simp) : aK P md ops Q (Know K) ds fuel listed a w (i :: rs):=by
 refine aK.cons hoi hd (fun K' hK => ?_) hrest
 rw [if_pos hw]
 have hg:=goes_ (K:=K') (Q:=Q) hfn hname hb args hw hN hop hargs (h.mono (by
  rintro e w' ⟨rfl,hbw⟩
  have hs : Know K w':=HK.out.below hbw
  exact ⟨u,rfl,hK.out _ _ hs (fun _ => hk w' hbw ⟨hs⟩)⟩))
 rw [if_pos hw] at hg
 exact hg
theorem kAs {S : World → Prop} (M : ah (jo w0 w l v s)) (i : Nat) (N : Tmp) (y : ByteArray) (s' : List UInt8) (hy : s ++ y.data.toList = s') (hl : s'.length ≤ 140737488355328) {rs : List Nat}
  (h : ∀ v' w1,ah (jo w0 w1 l v' s') → bJ P md ops Q S ds fuel (listed.setIfInBounds i true) (a.put (some N) v') w1)
  (hrest : aK P md ops Q S ds fuel listed a w rs)
  {sl x : Operand} {t u : TypeId} (hoi : ops[i]? = some o:=by rfl) (hN : o.dst = some N:=by rfl) (ho : o.op = .call { callee:=.builtin .append,args:=#[sl,x],argTypes:=#[t,u] }:=by rfl) (hw : Region.wanted o (yielded ops a.tmps) = true:=by rfl) (hd : i ∈ ds:=by decide)
  (ht : P.underlying t = some (.slice 5):=by kernel_rfl) (hu : P.underlying u = some .string:=by kernel_rfl) (hinfo : (P.info? 5).map (fun i => (i.zero,i.size,i.bytes)) = some (some (.int .u8 0),1,1):=by kernel_rfl)
  (hs : a.eval sl = v:=by rfl) (hx : a.eval x = .string y:=by rfl) : aK P md ops Q S ds fuel listed a w (i :: rs):=by
 obtain ⟨i0,hi,hzz⟩:=Option.map_eq_some_iff.1 hinfo
 simp only [Prod.mk.injEq] at hzz
 have hn : s.length + y.size = s'.length:=by rw [← hy,List.length_append,Array.length_toList]; rfl
 refine aK.xB hoi hd (fun K' hK' => ?_) hrest
 rw [if_pos hw]
 obtain ⟨v',w',hr,h2,h3,h4⟩:=Lib.run_append_own_string (P:=P) w w0.heap.size t u o.type 5 i0 ht hu hi hzz.1 hzz.2.1 hzz.2.2 v s.length _ M.out.row y (by simp only [maxLen]; omega) (by omega) M.out.below.size
 unfold Oper.wp execOp
 simp only [ho,resolve,invoke,builtin,Sem.run_bind,Sem.run_pure,Result.andThen_ok,List.map_toArray,List.map_cons,List.map_nil,hs,hx,hr]
 rw [hn,Lib.strCells_eq,← Lib.byteCells_append,hy] at h2
 show K' (a.put o.dst v') w'
 rw [hN]
 exact hK'.out _ _ (h v' w' ⟨M.out.wrote h2 h3⟩)
end
end Go.Proofs.YtdbpglhdicmhhaaGreatDoor.iM
end
