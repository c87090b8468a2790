import Derived.Test.YtdbpglhdicmhhaaGreatDoorMBk7
import Derived.Test.YtdbpglhdicmhhaaGreatDoorMBk11
import Derived.Test.YtdbpglhdicmhhaaGreatDoorProg
import Derived.WalkKit
import Derived.WalkLawsBesides
import Derived.Below
import Derived.IntWalk
import Derived.Laws.Tables
import Derived.Laws.Rows
import Derived.Laws.CopyOwn
import Derived.Outline
import Derived.Test.YtdbpglhdicmhhaaGreatDoorMBk2
import Derived.Lib.Hide
set_option linter.unusedVariables false
set_option linter.unusedSimpArgs false
section
namespace Go.Proofs.YtdbpglhdicmhhaaGreatDoor.Hctx
open Go.RowKit Go.Proofs.YtdbpglhdicmhhaaGreatDoorW.PrintWords Go.Proofs.YtdbpglhdicmhhaaGreatDoorW.PrintLast Go.Proofs.YtdbpglhdicmhhaaGreatDoorW.PrintMore
theorem bld_move {T : TypeId} {B B' b : Nat} {bs : List Value} {W W1 : World} (h : Lib.IsBuilder T 5 B b bs W) (hB' : B' ≤ B) (h1 : W1.heap[b]? = W.heap[b]?) (h2 : ∀ (g : Nat) (cur : Array Value),W.heap[g]? = some (.cells cur 5 (0,0)) → W1.heap[g]? = W.heap[g]?) : Lib.IsBuilder T 5 B' b bs W1:=by
 have key : ∀ p,Lib.BuilderAt T 5 B b p bs W → Lib.BuilderAt T 5 B' b p bs W1:=fun p ⟨hB,v,hb,⟨hl,ho⟩,hne⟩ => by
  refine ⟨Nat.le_trans hB' hB,v,h1.trans hb,⟨hl,?_⟩,hne⟩
  rcases ho with ho | ⟨g,cap,cur,rfl,q1,q2,q3⟩
  ·exact .inl ho
  ·exact .inr ⟨g,cap,cur,rfl,Nat.le_trans hB' q1,(h2 g cur q2).trans q2,q3⟩
 exact h.elim (fun x => .inl (key _ x)) (fun x => .inr (key _ x))
theorem bld_lt {T : TypeId} {B b : Nat} {bs : List Value} {W : World} (h : Lib.IsBuilder T 5 B b bs W) : b < W.heap.size:=h.elim (fun x => x.lt) (fun x => x.lt)
theorem bld_blk {T : TypeId} {B b : Nat} {bs : List Value} {W : World} (h : Lib.IsBuilder T 5 B b bs W) : ∃ cs,W.heap[b]? = some (.cells cs T (0,0)):=h.elim (fun ⟨_,v,hb,_⟩ => ⟨_,hb⟩) (fun ⟨_,v,hb,_⟩ => ⟨_,hb⟩)
structure MemB (w0 W : World) (l : List (Nat × Array Value × TypeId)) (fx : List (Nat × Obj)) (b : Nat) (s : List UInt8) : Prop where
 mem : MemF [] w0 W l fx []
 bld : Lib.IsBuilder 89 5 w0.heap.size b (Lib.byteCells s) W
 typ : ∀ x ∈ l,x.2.2 ≠ 5 ∧ x.2.2 ≠ 89
section
variable {w0 W W1 : World} {l : List (Nat × Array Value × TypeId)} {fx : List (Nat × Obj)} {b : Nat} {s : List UInt8}
theorem MemB.ne (M : MemB w0 W l fx b s) {x : Nat × Array Value × TypeId} (hx : x ∈ l) : x.1 ≠ b:=by
 rintro h
 obtain ⟨cs,hb⟩:=bld_blk M.bld
 have:=(M.mem.mem.blk x hx).1
 rw [h,hb] at this
 injection this with this
 injection this with _ this _
 exact (M.typ x hx).2 this.symm
theorem MemB.call (M : MemB w0 W l fx b s) (hb : Below W.heap.size W W1) : MemB w0 W1 l fx b s :=
 ⟨M.mem.call hb,bld_move M.bld (Nat.le_refl _) (hb.block b (bld_lt M.bld)) (fun g cur hg => hb.block g (blk_lt hg)),M.typ⟩
theorem MemB.forget (M : MemB w0 W l fx b s) (n : Nat) : MemB w0 W (l.take n) fx b s:=⟨M.mem.forget n,M.bld,fun x hx => M.typ x (List.mem_of_mem_take hx)⟩
theorem MemB.below (M : MemB w0 W l fx b s) : Below w0.heap.size w0 W:=M.mem.mem.below
theorem MemB.wrote {s' : List UInt8} (M : MemB w0 W l fx b s) (hI : Lib.IsBuilder 89 5 w0.heap.size b (Lib.byteCells s') W1) (hb : Below w0.heap.size W W1) (hk : Lib.OthersKept 5 (some b) W W1) : MemB w0 W1 l fx b s':=by
 have b0:=M.mem.mem.below
 refine ⟨⟨⟨⟨hb.os.trans b0.os,hb.tape.trans b0.tape,hb.output.trans b0.output,Nat.le_trans b0.size hb.size,fun j hj => (hb.block j hj).trans (b0.block j hj)⟩,fun x hx => ?_,M.mem.mem.apart,(fun r hr => by cases hr),(fun i r hr => by simp at hr)⟩,fun i x hx => ?_,M.mem.part⟩,hI,M.typ⟩
 ·have h:=M.mem.mem.blk x hx
  refine ⟨hk x.1 _ h.1 (fun he => M.ne hx (Option.some.inj he)) ?_,h.2⟩
  intro c fz hc
  injection hc with _ hc _
  exact (M.typ x hx).1 hc
 ·have h:=M.mem.fix i x hx
  refine ⟨hk x.1 _ h.1 (fun he => ?_) (fun c fz hc => h.2.2 _ _ _ hc),h.2⟩
  obtain ⟨cs,hb⟩:=bld_blk M.bld
  rw [Option.some.inj he] at h
  exact h.2.2 _ _ _ (Option.some.inj (h.1.symm.trans hb))
theorem MemB.made (M : MemF [] w0 W l fx []) (ht : ∀ x ∈ l,x.2.2 ≠ 5 ∧ x.2.2 ≠ 89) : MemB w0 (W.alloc (.cells #[.pointer none,.slice none 0 0] 89)) l fx W.heap.size [] :=
 ⟨M.call (below_alloc (Below.refl _ _) _),bld_move (Lib.fresh_isBuilder 89 5 W) (below_size M.mem.below) rfl (fun _ _ _ => rfl),ht⟩
theorem MemB.map (M : MemB w0 W l fx b s) (o : Obj) (hn : NoCells o) : MemB w0 (W.alloc o) l (fx ++ [(W.heap.size,o)]) b s :=
 ⟨M.mem.made o hn,(M.call (below_alloc (Below.refl _ _) o)).bld,M.typ⟩
theorem MemB.turned (M : MemB w0 W l fx b s) (i : Nat) {g : Nat} {o o' : Obj} (hi : fx[i]? = some (g,o)) (hg : W.grownBy W1 (some g)) (ho : W1.heap[g]? = some o') (hn : NoCells o') : MemB w0 W1 l (fx.set i (g,o')) b s:=by
 have h0:=M.mem.fix i _ hi
 refine ⟨M.mem.turned i hi hg ho hn,bld_move M.bld (Nat.le_refl _) (hg.block b (bld_lt M.bld) (fun he => ?_)) (fun k cur hc => hg.block k (blk_lt hc) (fun he => ?_)),M.typ⟩
 ·obtain ⟨cs,hb⟩:=bld_blk M.bld
  injection he with he
  subst he
  exact h0.2.2 _ _ _ (Option.some.inj (h0.1.symm.trans hb))
 ·injection he with he
  subst he
  exact h0.2.2 _ _ _ (Option.some.inj (h0.1.symm.trans hc))
end
section
variable {P : Program} {ops : Array Oper} {rest : List Oper} {o : Oper} {a : Act} {Q : Exit → Act → World → Prop} {w0 W : World} {l : List (Nat × Array Value × TypeId)} {fx : List (Nat × Obj)} {b : Nat} {s : List UInt8}
theorem bB (M : Aside0 (MemB w0 W l fx b s)) (N : Tmp) (cs : Array Value) (t : TypeId)
  (h : ∀ g w1,Aside0 (MemB w0 w1 (l ++ [(g,cs,t)]) fx b s) → wpList P ops Q rest (a.put o.dst (.pointer (some ⟨g,0,none⟩))) w1)
  (hd : o.dst = some N:=by with_reducible rfl) (hgd : o.guard = none:=by with_reducible rfl) (ht : t ≠ 5 ∧ t ≠ 89:=by decide)
  (hr : (execOp a.eval o).run P W = .ok (.value (.pointer (some ⟨W.heap.size,0,none⟩))) (W.alloc (.cells cs t (0,0))):=by first | (go_simp; done) | (go_simp; rfl)) :
  wpList P ops Q (o :: rest) a W :=
 box_event hgd hd hr fun g hg w1 hbox hb => h g w1 ⟨⟨Mem.box M.out.mem.mem hg hbox hb (by simp),(M.out.mem.call hb).fix,M.out.mem.part⟩,(M.out.call hb).bld,fun x hx => by
  rcases List.mem_append.1 hx with hx | hx
  ·exact M.out.typ x hx
  ·rw [List.mem_singleton] at hx; subst hx; exact ht⟩
theorem typ_set {l : List (Nat × Array Value × TypeId)} (h : ∀ x ∈ l,x.2.2 ≠ 5 ∧ x.2.2 ≠ 89) {i g : Nat} {old new : Array Value} {tb : TypeId} (hi : l[i]? = some (g,old,tb)) : ∀ x ∈ l.set i (g,new,tb),x.2.2 ≠ 5 ∧ x.2.2 ≠ 89:=fun x hx => by
 rcases List.mem_or_eq_of_mem_set hx with hx | rfl
 ·exact h x hx
 ·exact h (g,old,tb) (List.mem_of_getElem? hi)
theorem bld_box {W' : World} (M : MemB w0 W l fx b s) {i g : Nat} {old : Array Value} {tb : TypeId} (hi : l[i]? = some (g,old,tb)) (hk : KeepBut W W' g none) : Lib.IsBuilder 89 5 w0.heap.size b (Lib.byteCells s) W':=by
 have hx:=List.mem_of_getElem? hi
 refine bld_move M.bld (Nat.le_refl _) (hk.2 b (bld_lt M.bld) (fun e => M.ne hx e.symm) (by simp)) (fun k cur hc => hk.2 k (blk_lt hc) (fun e => ?_) (by simp))
 subst e
 have:=(M.mem.mem.blk _ hx).1
 rw [hc] at this
 injection this with this
 injection this with _ this _
 exact (M.typ _ hx).1 this.symm
theorem bR (M : Aside0 (MemB w0 W l fx b s)) (t : TypeId) (p : Tmp) (i : Nat) (new : Array Value) {g : Nat} {old : Array Value} {tb : TypeId} {x : Operand}
  (h : ∀ w',Aside0 (MemB w0 w' (l.set i (g,new,tb)) fx b s) → wpList P ops Q rest a w')
  (ho : o.op = .store t (.tmp p) x:=by with_reducible rfl) (hn : o.dst = none:=by with_reducible rfl) (hgd : o.guard = none:=by with_reducible rfl)
  (hi : l[i]? = some (g,old,tb):=by rfl) (hx : a.eval (.tmp p) = .pointer (some ⟨g,0,none⟩):=by rfl) (hv : a.eval x = .agg new:=by first | rfl | (go_simp; done) | (go_simp; rfl))
  (hs : (P.info? t).map (·.size) = some new.size:=by kernel_rfl) (hso : old.size = new.size:=by rfl) (h1 : new.all (·.oneCell') = true:=by kernel_rfl) :
  wpList P ops Q (o :: rest) a W :=
 row_event hgd ho hn g old new hx hv (M.out.mem.mem.at i hi) hs hso h1 fun w' hn' hk hb => h w' ⟨M.out.mem.other (Mem.keep M.out.mem.mem i hi hn' hk (hb w0 M.out.mem.mem.below (M.out.mem.mem.ge i hi))) (fun q y hy => hk.2 y.1 (heap_lt (M.out.mem.fix q y hy).1) (M.out.mem.ne_box i q hi hy) (by simp)),bld_box M.out hi hk,typ_set M.out.typ hi⟩
end
theorem plainElem_bool_inv {H : Type} {P : Program} {e : TypeId} (he : P.underlying e = some .bool) {v : Value} {z : DataW H × List MemPlace} (h : plainElem P e v = some z) : ∃ x,v = .bool x ∧ z = (.lit (.bool x),[]):=by
 unfold plainElem at h
 rw [he] at h
 cases v <;> simp at h
 obtain rfl:=h
 exact ⟨_,rfl,rfl⟩
def SetIs (P : Program) (k e : TypeId) (n : Nat) (o : Obj) {κ : Type} (enc : κ → Value) (f : κ → Bool) : Prop :=
 (∃ es ck,o = .map es ck) ∧ ∃ D : DataW Unit,(∀ (W : World) (g : Nat),W.heap[g]? = some o → W.ownsMap P k (plainElem P e) g n D) ∧
  ∀ (x : κ) (kl : Lit),keyOf P k (enc x) = some kl → D.atKey kl (.lit (.bool false)) = .lit (.bool (f x))
section
variable {P : Program} {k e : TypeId} {n : Nat} {o : Obj} {κ : Type} {enc : κ → Value} {f : κ → Bool}
theorem SetIs.noCells (h : SetIs P k e n o enc f) : NoCells o:=by
 obtain ⟨⟨es,ck,rfl⟩,_⟩:=h
 intro cs t f h; cases h
theorem SetIs.empty (P : Program) (k e : TypeId) {κ : Type} (enc : κ → Value) : SetIs P k e 0 (.map #[] 0) enc (fun _ => false):=by
 refine ⟨⟨_,_,rfl⟩,.map [],fun W g h => ?_,fun x kl h => rfl⟩
 obtain ⟨es,ck,h1,h2,h3,h4⟩:=World.ownsMap_made (H:=Unit) W P k (plainElem P e)
 rw [(MapKept.heap_alloc W _).1] at h1
 injection h1 with h1
 injection h1 with e1 e2
 subst e1; subst e2
 exact ⟨#[],0,h,h2,h3,h4⟩
theorem SetIs.mono (h : SetIs P k e n o enc f) {m : Nat} (hm : n ≤ m) : SetIs P k e m o enc f:=by
 obtain ⟨h0,D,h1,h2⟩:=h
 exact ⟨h0,D,fun W g hg => (h1 W g hg).mono hm,h2⟩
theorem SetIs.look {t : TypeId} (h : SetIs P k e n o enc f) (K : Maps.Keyed P k) (ht : P.underlying t = some (.map k e)) (hue : P.underlying e = some .bool) {W : World} {g : Nat} (hg : W.heap[g]? = some o)
  (hz : (zeroValue e).run P W = .ok (.bool false) W) (x : κ) {kl : Lit} (hk : keyOf P k (enc x) = some kl) :
  (Instr.lookup t (.map (some g)) (enc x) false).run P W = .ok (.bool (f x)) W:=by
 obtain ⟨_,D,h1,h2⟩:=h
 obtain ⟨v,ps,hrun,hv⟩:=(h1 W g hg).lookup K ht hz (plainElem_bool hue false) hk
 obtain ⟨c,rfl,hc⟩:=plainElem_bool_inv hue hv
 have:=h2 x kl hk
 simp only [Prod.mk.injEq] at hc
 rw [hc.1] at this
 injection this with this
 injection this with this
 rw [hrun,this]
theorem SetIs.update [DecidableEq κ] {t : TypeId} (h : SetIs P k e n o enc f) (K : Maps.Keyed P k) (hinj : ∀ x y,enc x = enc y → x = y) (ht : P.underlying t = some (.map k e)) (hue : P.underlying e = some .bool) {W : World} {g : Nat} (hg : W.heap[g]? = some o)
  (hn : n < maxLen) (x : κ) {kl : Lit} (hk : keyOf P k (enc x) = some kl) :
  ∃ W1 o1,(Instr.mapUpdate t (.map (some g)) (enc x) (.bool true)).run P W = .ok () W1 ∧ W1.heap[g]? = some o1 ∧ W.grownBy W1 (some g) ∧ SetIs P k e (n + 1) o1 enc (fun y => decide (y = x) || f y):=by
 obtain ⟨⟨es0,ck0,rfl⟩,D,h1,h2⟩:=h
 obtain ⟨W1,hrun,hown1,hgr⟩:=(h1 W g hg).update K ht hn hk (plainElem_bool (H:=Unit) hue true)
 have hmap : Maps.IsMap D:=by
  obtain ⟨es,ck,_,_,_,rfl⟩:=h1 W g hg
  exact ⟨_,rfl⟩
 obtain ⟨es,ck,e1,e2,e3,e4⟩:=hown1
 refine ⟨W1,_,hrun,e1,hgr,⟨⟨es,ck,rfl⟩,_,fun W' g' hg' => ⟨es,ck,hg',e2,e3,e4⟩,fun y kl' hy => ?_⟩⟩
 by_cases hyx : y = x
 ·subst hyx
  rw [hk] at hy
  obtain rfl:=Option.some.inj hy
  rw [Maps.atKey_put_same hmap (K.key hk)]; simp
 ·have hne : kl' ≠ kl:=fun he => hyx (hinj _ _ (K.inj (he ▸ hy) hk))
  rw [Maps.atKey_put_other hne,h2 y kl' hy]
  simp [hyx]
end
section
variable {P : Program} {ops : Array Oper} {rest : List Oper} {o : Oper} {a : Act} {Q : Exit → Act → World → Prop} {w0 W : World} {l : List (Nat × Array Value × TypeId)} {fx : List (Nat × Obj)} {b : Nat} {s : List UInt8}
theorem bNew (M : Aside0 (MemF [] w0 W l fx [])) (N : Tmp) (ht : ∀ x ∈ l,x.2.2 ≠ 5 ∧ x.2.2 ≠ 89)
  (h : ∀ g w1,Aside0 (MemB w0 w1 l fx g []) → wpList P ops Q rest (a.put o.dst (.pointer (some ⟨g,0,none⟩))) w1)
  (hd : o.dst = some N:=by with_reducible rfl) (hgd : o.guard = none:=by with_reducible rfl)
  (hr : (execOp a.eval o).run P W = .ok (.value (.pointer (some ⟨W.heap.size,0,none⟩))) (W.alloc (.cells #[.pointer none,.slice none 0 0] 89 (0,0))):=by first | (go_simp; done) | (go_simp; rfl)) :
  wpList P ops Q (o :: rest) a W :=
 Kd.event_run hgd hr (h _ _ ⟨MemB.made M.out ht⟩)
theorem bMk (M : Aside0 (MemB w0 W l fx b s)) (h : ∀ g w1,Aside0 (MemB w0 w1 l (fx ++ [(g,.map #[] 0)]) b s) → wpList P ops Q rest (a.put o.dst (.map (some g))) w1)
  {t : TypeId} (hop : o.op = .makeMap t none:=by with_reducible rfl) (hg : o.guard = none:=by with_reducible rfl) :
  wpList P ops Q (o :: rest) a W:=by
 refine wpList_plain hg fun K hK' => ?_
 unfold Oper.wp
 simp only [execOp,hop,Option.map_none,run_makeMap,Result.andThen]
 exact hK' _ _ (h W.heap.size _ ⟨M.out.map _ (fun cs t f h => by cases h)⟩)
theorem bM {κ : Type} [DecidableEq κ] {enc : κ → Value} {f : κ → Bool} {k e : TypeId} {n g : Nat} {ob : Obj} (M : Aside0 (MemB w0 W l fx b s)) (i : Nat) (hi : fx[i]? = some (g,ob)) (hm : SetIs P k e n ob enc f) (K : Maps.Keyed P k) (hinj : ∀ x y,enc x = enc y → x = y) {t : TypeId} (ht : P.underlying t = some (.map k e)) (hue : P.underlying e = some .bool)
  (hn : n < maxLen) (x : κ) {kl : Lit} (hk : keyOf P k (enc x) = some kl)
  (h : ∀ w' o',Aside0 (MemB w0 w' l (fx.set i (g,o')) b s) → SetIs P k e (n + 1) o' enc (fun y => decide (y = x) || f y) → wpList P ops Q rest (a.put o.dst undef) w')
  {m y u : Operand} (ho : o.op = .mapUpdate t m y u:=by with_reducible rfl) (hgd : o.guard = none:=by with_reducible rfl)
  (hm' : a.eval m = .map (some g):=by first | rfl | (go_simp; done) | (go_simp; rfl)) (hx : a.eval y = enc x:=by first | rfl | (go_simp; done) | (go_simp; rfl)) (hu : a.eval u = .bool true:=by first | rfl | (go_simp; done) | (go_simp; rfl)) :
  wpList P ops Q (o :: rest) a W:=by
 refine wpList_plain hgd fun K' hK' => ?_
 obtain ⟨w',o',hrun,hat,hg,hm1⟩:=hm.update K hinj ht hue (M.out.mem.fix i _ hi).1 hn x hk
 have M1:=M.out.turned i hi hg hat hm1.noCells
 unfold Oper.wp
 simp [execOp,ho,hm',hx,hu,hrun,Result.andThen]
 exact hK' _ _ (h w' o' ⟨M1⟩ hm1)
end
end Go.Proofs.YtdbpglhdicmhhaaGreatDoor.Hctx
end

section
namespace Go.Proofs.YtdbpglhdicmhhaaGreatDoor.Htab
open Go.RowKit
def quiet {α : Type} (P : Program) : Sem α → Option α
 | .pure a => some a
 | .program k => quiet P (k P)
 | .mark _ k => quiet P k
 | _ => none
theorem quiet_run {α : Type} {P : Program} : ∀ {s : Sem α} {a : α},quiet P s = some a → ∀ w,s.run P w = .ok a w
 | .pure _,_,h,w => by simp only [quiet,Option.some.injEq] at h; subst h; rfl
 | .program k,_,h,w => by simp only [quiet] at h; exact quiet_run (s:=k P) h w
 | .mark _ k,_,h,w => by simp only [quiet] at h; exact quiet_run (s:=k) h w
def quietOps (P : Program) : List Oper → Act → Option Act
 | [],a => some a
 | o :: rest,a => match o.guard with
  | some _ => none
  | none => match quiet P (execOp a.eval o) with
   | some (.value v) => quietOps P rest (a.put o.dst v)
   | _ => none
theorem wpList_quiet {P : Program} {ops : Array Oper} {Q : Exit → Act → World → Prop} {rest : List Oper} {a' : Act} {w : World} :
  ∀ (os : List Oper) (a : Act),quietOps P os a = some a' → wpList P ops Q rest a' w → wpList P ops Q (os ++ rest) a w
 | [],a,h,k => by simp only [quietOps,Option.some.injEq] at h; subst h; exact k
 | o :: os,a,h,k => by
  simp only [quietOps] at h
  split at h
  ·cases h
  ·rename_i hg
   split at h
   ·rename_i v hv
    refine wpList_plain hg fun K hK => ?_
    unfold Oper.wp
    rw [quiet_run hv w,Oper.upon_value]
    exact hK _ _ (wpList_quiet os _ h k)
   ·cases h
def rows : List (ByteArray × Int × Int × ByteArray × ByteArray) :=
 [(⟨#[110,111,112]⟩,0,1,⟨#[]⟩,⟨#[]⟩),
  (⟨#[115,101,116]⟩,6,1,⟨#[]⟩,⟨#[97]⟩),
  (⟨#[104,105,103,104]⟩,5,1,⟨#[97]⟩,⟨#[97]⟩),
  (⟨#[109,111,118,101]⟩,2,1,⟨#[98]⟩,⟨#[97]⟩),
  (⟨#[97,100,100]⟩,3,1,⟨#[98,99]⟩,⟨#[97]⟩),
  (⟨#[115,117,98]⟩,3,1,⟨#[98,99]⟩,⟨#[97]⟩),
  (⟨#[109,117,108]⟩,3,3,⟨#[98,99]⟩,⟨#[97]⟩),
  (⟨#[100,105,118]⟩,3,8,⟨#[98,99]⟩,⟨#[97]⟩),
  (⟨#[114,101,109]⟩,3,8,⟨#[98,99]⟩,⟨#[97]⟩),
  (⟨#[97,110,100]⟩,3,1,⟨#[98,99]⟩,⟨#[97]⟩),
  (⟨#[111,114]⟩,3,1,⟨#[98,99]⟩,⟨#[97]⟩),
  (⟨#[120,111,114]⟩,3,1,⟨#[98,99]⟩,⟨#[97]⟩),
  (⟨#[115,104,108]⟩,3,1,⟨#[98,99]⟩,⟨#[97]⟩),
  (⟨#[115,104,114]⟩,3,1,⟨#[98,99]⟩,⟨#[97]⟩),
  (⟨#[108,101,115,115]⟩,3,1,⟨#[98,99]⟩,⟨#[97]⟩),
  (⟨#[101,113,117,97,108]⟩,3,1,⟨#[98,99]⟩,⟨#[97]⟩),
  (⟨#[106,117,109,112]⟩,4,1,⟨#[]⟩,⟨#[]⟩),
  (⟨#[122,101,114,111]⟩,5,1,⟨#[97]⟩,⟨#[]⟩),
  (⟨#[115,111,109,101]⟩,5,1,⟨#[97]⟩,⟨#[]⟩),
  (⟨#[99,97,108,108]⟩,4,2,⟨#[]⟩,⟨#[]⟩),
  (⟨#[114,101,116]⟩,0,2,⟨#[]⟩,⟨#[]⟩),
  (⟨#[115,112,97,119,110]⟩,5,4,⟨#[97,108,108]⟩,⟨#[97]⟩),
  (⟨#[121,105,101,108,100]⟩,0,1,⟨#[]⟩,⟨#[]⟩),
  (⟨#[101,120,105,116]⟩,0,1,⟨#[]⟩,⟨#[]⟩),
  (⟨#[115,101,108,102]⟩,1,1,⟨#[]⟩,⟨#[97]⟩),
  (⟨#[110,111,119]⟩,1,1,⟨#[]⟩,⟨#[97]⟩),
  (⟨#[115,108,101,101,112]⟩,1,1,⟨#[97]⟩,⟨#[]⟩),
  (⟨#[109,97,107,101]⟩,2,4,⟨#[98]⟩,⟨#[97]⟩),
  (⟨#[115,101,110,100]⟩,2,2,⟨#[97,98]⟩,⟨#[]⟩),
  (⟨#[114,101,99,118]⟩,3,2,⟨#[99]⟩,⟨#[97,98]⟩),
  (⟨#[99,108,111,115,101]⟩,1,2,⟨#[97]⟩,⟨#[]⟩),
  (⟨#[108,101,110]⟩,2,1,⟨#[98]⟩,⟨#[97]⟩),
  (⟨#[99,97,112]⟩,2,1,⟨#[98]⟩,⟨#[97]⟩),
  (⟨#[115,101,108,101,99,116]⟩,5,4,⟨#[97,108,108]⟩,⟨#[97,108,108]⟩),
  (⟨#[108,111,99,107]⟩,1,2,⟨#[97]⟩,⟨#[]⟩),
  (⟨#[117,110,108,111,99,107]⟩,1,2,⟨#[97]⟩,⟨#[]⟩),
  (⟨#[114,108,111,99,107]⟩,1,2,⟨#[97]⟩,⟨#[]⟩),
  (⟨#[114,117,110,108,111,99,107]⟩,1,2,⟨#[97]⟩,⟨#[]⟩),
  (⟨#[119,97,100,100]⟩,2,2,⟨#[97,98]⟩,⟨#[]⟩),
  (⟨#[119,100,111,110,101]⟩,1,2,⟨#[97]⟩,⟨#[]⟩),
  (⟨#[119,119,97,105,116]⟩,1,2,⟨#[97]⟩,⟨#[]⟩),
  (⟨#[99,119,97,105,116]⟩,2,3,⟨#[97,98]⟩,⟨#[]⟩),
  (⟨#[115,105,103,110,97,108]⟩,1,2,⟨#[97]⟩,⟨#[]⟩),
  (⟨#[98,114,111,97,100,99,97,115,116]⟩,1,3,⟨#[97]⟩,⟨#[]⟩),
  (⟨#[97,99,113,117,105,114,101]⟩,1,2,⟨#[97]⟩,⟨#[]⟩),
  (⟨#[114,101,108,101,97,115,101]⟩,1,2,⟨#[97]⟩,⟨#[]⟩),
  (⟨#[108,111,97,100]⟩,2,2,⟨#[98]⟩,⟨#[97]⟩),
  (⟨#[115,116,111,114,101]⟩,2,2,⟨#[97,98]⟩,⟨#[]⟩),
  (⟨#[115,119,97,112]⟩,3,3,⟨#[97,98,99]⟩,⟨#[97]⟩),
  (⟨#[102,101,116,99,104]⟩,3,3,⟨#[98,99]⟩,⟨#[97]⟩),
  (⟨#[105,110,112,117,116]⟩,2,2,⟨#[]⟩,⟨#[97,98]⟩),
  (⟨#[111,117,116,112,117,116]⟩,1,2,⟨#[97]⟩,⟨#[]⟩),
  (⟨#[112,117,116]⟩,3,2,⟨#[97,98]⟩,⟨#[99]⟩),
  (⟨#[103,101,116]⟩,3,2,⟨#[99]⟩,⟨#[97,98]⟩),
  (⟨#[97,102,116,101,114]⟩,3,3,⟨#[98,99]⟩,⟨#[97]⟩),
  (⟨#[101,118,101,114,121]⟩,3,3,⟨#[98,99]⟩,⟨#[97]⟩),
  (⟨#[115,116,111,112]⟩,2,2,⟨#[98]⟩,⟨#[97]⟩),
  (⟨#[116,114,97,112]⟩,4,1,⟨#[]⟩,⟨#[]⟩)]
def T58 : Array Value :=
 #[.string ⟨#[110,111,112]⟩,.int .i64 0,.int .i64 1,.string ⟨#[]⟩,.string ⟨#[]⟩,
  .string ⟨#[115,101,116]⟩,.int .i64 6,.int .i64 1,.string ⟨#[]⟩,.string ⟨#[97]⟩,
  .string ⟨#[104,105,103,104]⟩,.int .i64 5,.int .i64 1,.string ⟨#[97]⟩,.string ⟨#[97]⟩,
  .string ⟨#[109,111,118,101]⟩,.int .i64 2,.int .i64 1,.string ⟨#[98]⟩,.string ⟨#[97]⟩,
  .string ⟨#[97,100,100]⟩,.int .i64 3,.int .i64 1,.string ⟨#[98,99]⟩,.string ⟨#[97]⟩,
  .string ⟨#[115,117,98]⟩,.int .i64 3,.int .i64 1,.string ⟨#[98,99]⟩,.string ⟨#[97]⟩,
  .string ⟨#[109,117,108]⟩,.int .i64 3,.int .i64 3,.string ⟨#[98,99]⟩,.string ⟨#[97]⟩,
  .string ⟨#[100,105,118]⟩,.int .i64 3,.int .i64 8,.string ⟨#[98,99]⟩,.string ⟨#[97]⟩,
  .string ⟨#[114,101,109]⟩,.int .i64 3,.int .i64 8,.string ⟨#[98,99]⟩,.string ⟨#[97]⟩,
  .string ⟨#[97,110,100]⟩,.int .i64 3,.int .i64 1,.string ⟨#[98,99]⟩,.string ⟨#[97]⟩,
  .string ⟨#[111,114]⟩,.int .i64 3,.int .i64 1,.string ⟨#[98,99]⟩,.string ⟨#[97]⟩,
  .string ⟨#[120,111,114]⟩,.int .i64 3,.int .i64 1,.string ⟨#[98,99]⟩,.string ⟨#[97]⟩,
  .string ⟨#[115,104,108]⟩,.int .i64 3,.int .i64 1,.string ⟨#[98,99]⟩,.string ⟨#[97]⟩,
  .string ⟨#[115,104,114]⟩,.int .i64 3,.int .i64 1,.string ⟨#[98,99]⟩,.string ⟨#[97]⟩,
  .string ⟨#[108,101,115,115]⟩,.int .i64 3,.int .i64 1,.string ⟨#[98,99]⟩,.string ⟨#[97]⟩,
  .string ⟨#[101,113,117,97,108]⟩,.int .i64 3,.int .i64 1,.string ⟨#[98,99]⟩,.string ⟨#[97]⟩,
  .string ⟨#[106,117,109,112]⟩,.int .i64 4,.int .i64 1,.string ⟨#[]⟩,.string ⟨#[]⟩,
  .string ⟨#[122,101,114,111]⟩,.int .i64 5,.int .i64 1,.string ⟨#[97]⟩,.string ⟨#[]⟩,
  .string ⟨#[115,111,109,101]⟩,.int .i64 5,.int .i64 1,.string ⟨#[97]⟩,.string ⟨#[]⟩,
  .string ⟨#[99,97,108,108]⟩,.int .i64 4,.int .i64 2,.string ⟨#[]⟩,.string ⟨#[]⟩,
  .string ⟨#[114,101,116]⟩,.int .i64 0,.int .i64 2,.string ⟨#[]⟩,.string ⟨#[]⟩,
  .string ⟨#[115,112,97,119,110]⟩,.int .i64 5,.int .i64 4,.string ⟨#[97,108,108]⟩,.string ⟨#[97]⟩,
  .string ⟨#[121,105,101,108,100]⟩,.int .i64 0,.int .i64 1,.string ⟨#[]⟩,.string ⟨#[]⟩,
  .string ⟨#[101,120,105,116]⟩,.int .i64 0,.int .i64 1,.string ⟨#[]⟩,.string ⟨#[]⟩,
  .string ⟨#[115,101,108,102]⟩,.int .i64 1,.int .i64 1,.string ⟨#[]⟩,.string ⟨#[97]⟩,
  .string ⟨#[110,111,119]⟩,.int .i64 1,.int .i64 1,.string ⟨#[]⟩,.string ⟨#[97]⟩,
  .string ⟨#[115,108,101,101,112]⟩,.int .i64 1,.int .i64 1,.string ⟨#[97]⟩,.string ⟨#[]⟩,
  .string ⟨#[109,97,107,101]⟩,.int .i64 2,.int .i64 4,.string ⟨#[98]⟩,.string ⟨#[97]⟩,
  .string ⟨#[115,101,110,100]⟩,.int .i64 2,.int .i64 2,.string ⟨#[97,98]⟩,.string ⟨#[]⟩,
  .string ⟨#[114,101,99,118]⟩,.int .i64 3,.int .i64 2,.string ⟨#[99]⟩,.string ⟨#[97,98]⟩,
  .string ⟨#[99,108,111,115,101]⟩,.int .i64 1,.int .i64 2,.string ⟨#[97]⟩,.string ⟨#[]⟩,
  .string ⟨#[108,101,110]⟩,.int .i64 2,.int .i64 1,.string ⟨#[98]⟩,.string ⟨#[97]⟩,
  .string ⟨#[99,97,112]⟩,.int .i64 2,.int .i64 1,.string ⟨#[98]⟩,.string ⟨#[97]⟩,
  .string ⟨#[115,101,108,101,99,116]⟩,.int .i64 5,.int .i64 4,.string ⟨#[97,108,108]⟩,.string ⟨#[97,108,108]⟩,
  .string ⟨#[108,111,99,107]⟩,.int .i64 1,.int .i64 2,.string ⟨#[97]⟩,.string ⟨#[]⟩,
  .string ⟨#[117,110,108,111,99,107]⟩,.int .i64 1,.int .i64 2,.string ⟨#[97]⟩,.string ⟨#[]⟩,
  .string ⟨#[114,108,111,99,107]⟩,.int .i64 1,.int .i64 2,.string ⟨#[97]⟩,.string ⟨#[]⟩,
  .string ⟨#[114,117,110,108,111,99,107]⟩,.int .i64 1,.int .i64 2,.string ⟨#[97]⟩,.string ⟨#[]⟩,
  .string ⟨#[119,97,100,100]⟩,.int .i64 2,.int .i64 2,.string ⟨#[97,98]⟩,.string ⟨#[]⟩,
  .string ⟨#[119,100,111,110,101]⟩,.int .i64 1,.int .i64 2,.string ⟨#[97]⟩,.string ⟨#[]⟩,
  .string ⟨#[119,119,97,105,116]⟩,.int .i64 1,.int .i64 2,.string ⟨#[97]⟩,.string ⟨#[]⟩,
  .string ⟨#[99,119,97,105,116]⟩,.int .i64 2,.int .i64 3,.string ⟨#[97,98]⟩,.string ⟨#[]⟩,
  .string ⟨#[115,105,103,110,97,108]⟩,.int .i64 1,.int .i64 2,.string ⟨#[97]⟩,.string ⟨#[]⟩,
  .string ⟨#[98,114,111,97,100,99,97,115,116]⟩,.int .i64 1,.int .i64 3,.string ⟨#[97]⟩,.string ⟨#[]⟩,
  .string ⟨#[97,99,113,117,105,114,101]⟩,.int .i64 1,.int .i64 2,.string ⟨#[97]⟩,.string ⟨#[]⟩,
  .string ⟨#[114,101,108,101,97,115,101]⟩,.int .i64 1,.int .i64 2,.string ⟨#[97]⟩,.string ⟨#[]⟩,
  .string ⟨#[108,111,97,100]⟩,.int .i64 2,.int .i64 2,.string ⟨#[98]⟩,.string ⟨#[97]⟩,
  .string ⟨#[115,116,111,114,101]⟩,.int .i64 2,.int .i64 2,.string ⟨#[97,98]⟩,.string ⟨#[]⟩,
  .string ⟨#[115,119,97,112]⟩,.int .i64 3,.int .i64 3,.string ⟨#[97,98,99]⟩,.string ⟨#[97]⟩,
  .string ⟨#[102,101,116,99,104]⟩,.int .i64 3,.int .i64 3,.string ⟨#[98,99]⟩,.string ⟨#[97]⟩,
  .string ⟨#[105,110,112,117,116]⟩,.int .i64 2,.int .i64 2,.string ⟨#[]⟩,.string ⟨#[97,98]⟩,
  .string ⟨#[111,117,116,112,117,116]⟩,.int .i64 1,.int .i64 2,.string ⟨#[97]⟩,.string ⟨#[]⟩,
  .string ⟨#[112,117,116]⟩,.int .i64 3,.int .i64 2,.string ⟨#[97,98]⟩,.string ⟨#[99]⟩,
  .string ⟨#[103,101,116]⟩,.int .i64 3,.int .i64 2,.string ⟨#[99]⟩,.string ⟨#[97,98]⟩,
  .string ⟨#[97,102,116,101,114]⟩,.int .i64 3,.int .i64 3,.string ⟨#[98,99]⟩,.string ⟨#[97]⟩,
  .string ⟨#[101,118,101,114,121]⟩,.int .i64 3,.int .i64 3,.string ⟨#[98,99]⟩,.string ⟨#[97]⟩,
  .string ⟨#[115,116,111,112]⟩,.int .i64 2,.int .i64 2,.string ⟨#[98]⟩,.string ⟨#[97]⟩,
  .string ⟨#[116,114,97,112]⟩,.int .i64 4,.int .i64 1,.string ⟨#[]⟩,.string ⟨#[]⟩]
def Z58 : Array Value:=(Array.replicate 58 #[.string ⟨#[]⟩,.int .i64 0,.int .i64 0,.string ⟨#[]⟩,.string ⟨#[]⟩]).flatten
def opsOfRegion : Code → List Oper
 | .region _ ops _ => ops.toList
 | _ => []
def first : Code → Code
 | .seq a _ => a
 | c => c
def second : Code → Code
 | .seq _ b => b
 | c => c
noncomputable def bodyTable : Code:=Tryz.f104.body.getD .skip
noncomputable def opsA : List Oper:=opsOfRegion (first bodyTable)
noncomputable def opsB : List Oper:=opsOfRegion (first (second bodyTable))
noncomputable def act0 : Act:={ tmps:=Array.replicate 60 undef,defers:=[] }
noncomputable def actA (B : Nat) : Act:=act0.put (some 0) (.pointer (some ⟨B,0,none⟩))
noncomputable def actB (B : Nat) : Act:=(quietOps Tryz.prog (opsB.take 59) (actA B)).getD act0
set_option maxHeartbeats 1000000 in
set_option maxRecDepth 100000 in
theorem table_calls (w : World) :
  Calls Tryz.prog 104 #[] w fun e w' => e = .returned (.agg T58) ∧ Below w.heap.size w w':=by
 have hbody : Tryz.f104.body = some (.seq (.region 0 opsA.toArray false) (.seq (.region 1 (opsB.take 59 ++ opsB.drop 59).toArray false) .ret)):=by kernel_rfl
 have hA : opsA = [opsA.headD default]:=by kernel_rfl
 have hAr : ∀ W : World,(execOp act0.eval (opsA.headD default)).run Tryz.prog W = .ok (.value (.pointer (some ⟨W.heap.size,0,none⟩))) (W.alloc (.cells Z58 148)):=fun W => by kernel_rfl
 have hAg : (opsA.headD default).guard = none:=by kernel_rfl
 have hAd : (opsA.headD default).dst = some 0:=by kernel_rfl
 have hB : ∀ B,quietOps Tryz.prog (opsB.take 59) (actA B) = some (actB B):=fun B => by kernel_rfl
 have hB0 : ∀ B,(actB B).tmps.getD 0 undef = .pointer (some ⟨B,0,none⟩):=fun B => by kernel_rfl
 have hB1 : ∀ B,(actB B).tmps.getD 59 undef = .agg T58:=fun B => by kernel_rfl
 have hB2 : ∀ B,(actB B).defers = []:=fun B => by kernel_rfl
 have hC : opsB.drop 59 = [(opsB.drop 59).headD default]:=by kernel_rfl
 have hCo : ((opsB.drop 59).headD default).op = .store 148 (.tmp 0) (.tmp 59):=by kernel_rfl
 have hCg : ((opsB.drop 59).headD default).guard = none:=by kernel_rfl
 have hCd : ((opsB.drop 59).headD default).dst = none:=by kernel_rfl
 have hn : Tryz.f104.ntmps = 60:=by kernel_rfl
 have hact : (⟨#[] ++ Array.replicate (Tryz.f104.ntmps - (#[] : Array Value).size) undef,[]⟩ : Act) = act0:=by kernel_rfl
 have hres : Tryz.f104.results = #[.cell 0 148]:=by kernel_rfl
 refine calls_of_wp Tryz.func104 hbody ?_
 rw [hact]
 refine wp_seq (wp_region_list ?_)
 rw [List.toList_toArray]
 generalize hAeq : opsA.headD default = oA at *
 rw [hA]
 refine wpList_plain hAg fun K hK => ?_
 unfold Oper.wp
 rw [hAr w,Oper.upon_value,hAd]
 refine hK _ _ (wpList_nil ?_)
 show Code.wp _ _ _ _ _
 refine wp_seq (wp_region_list ?_)
 rw [List.toList_toArray]
 refine wpList_quiet _ _ (hB w.heap.size) ?_
 rw [hC]
 refine wpList_store_row hCg 148 (.tmp 0) (.tmp 59) hCo w.heap.size T58 (hB0 _) (hB1 _) 148 Z58 (heap_alloc_new _ _) (by kernel_rfl) (by kernel_rfl) (by kernel_rfl) ?_
 rw [hCd]
 refine wpList_nil ?_
 refine wp_ret ?_
 refine bodyPost_ret (results_cell_row hres _ _ w.heap.size 148 T58 (0,0) _ (hB0 _) (setRow_heap _ _ _ _ _ _ (heap_alloc_new _ _)) Tryz.underlying148 rfl (by kernel_rfl)) (hB2 _) ⟨rfl,?_⟩
 exact below_setRow ((Below.refl _ _).alloc (Nat.le_refl _) _) (Nat.le_refl _) _
end Go.Proofs.YtdbpglhdicmhhaaGreatDoor.Htab
end

section
namespace Go.Proofs.YtdbpglhdicmhhaaGreatDoor.Hfind
open Go.RowKit Go.Proofs.YtdbpglhdicmhhaaGreatDoor.Htab Go.Proofs.YtdbpglhdicmhhaaGreatDoorW.PrintWords
def row0 : ByteArray × Int × Int × ByteArray × ByteArray:=(⟨#[]⟩,0,0,⟨#[]⟩,⟨#[]⟩)
def rowAt (k : Nat) : ByteArray × Int × Int × ByteArray × ByteArray:=rows.getD k row0
def cellsOf (r : ByteArray × Int × Int × ByteArray × ByteArray) : Array Value:=#[.string r.1,.int .i64 r.2.1,.int .i64 r.2.2.1,.string r.2.2.2.1,.string r.2.2.2.2]
theorem of_range {α : Type} (n : Nat) (f g : Nat → α) (h : (List.range n).map f = (List.range n).map g) (k : Nat) (hk : k < n) : f k = g k:=by
 have:=congrArg (fun l => l[k]?) h
 simpa [List.getElem?_map,List.getElem?_range hk] using this
theorem extract_at (k : Nat) (hk : k < 58) : T58.extract (k * 5) (k * 5 + 5) = cellsOf (rowAt k) :=
 of_range 58 (fun k => T58.extract (k * 5) (k * 5 + 5)) (fun k => cellsOf (rowAt k)) (by kernel_rfl) k hk
theorem index_at (k : Nat) (hk : k < 58) (w : World) : (Instr.index 148 (.agg T58) (.int .i64 k)).run Tryz.prog w = .ok (.agg (cellsOf (rowAt k))) w:=by
 have h1 : ∀ w,((sizeOf 127).run Tryz.prog w) = .ok 5 w:=fun w => by kernel_rfl
 have h2 : ∀ w,((isAgg 127).run Tryz.prog w) = .ok true w:=fun w => by kernel_rfl
 have h3:=extract_at k hk
 have h4 : (k : Int) < 58:=by omega
 have hx : ∀ j : Int,0 ≤ j → j < 58 → (Instr.index 148 (.agg T58) (.int .i64 j)).run Tryz.prog w = .ok (.agg (T58.extract (j.toNat * 5) (j.toNat * 5 + 5))) w:=by
  intro j h0 h1'
  simp [Instr.index,asIntOf,run_underlying Tryz.underlying148,part,h1,h2,h0,h1']
 rw [hx k (by omega) h4,Int.toNat_natCast,h3]
theorem bcell {W w1 : World} (hb : Below W.heap.size W w1) : (∀ b o,b < W.heap.size → w1.cell? ⟨b,o,none⟩ = W.cell? ⟨b,o,none⟩) ∧ (∀ b o,b < W.heap.size → w1.frozen? ⟨b,o,none⟩ = W.frozen? ⟨b,o,none⟩) :=
 ⟨fun b o h => hb.cell (p:=⟨b,o,none⟩) h,fun b o h => hb.frozen (p:=⟨b,o,none⟩) h⟩
set_option maxHeartbeats 1000000 in
set_option maxRecDepth 100000 in
theorem find_in (k : Nat) (hk : k < 58) (w : World) :
  Calls Tryz.prog 80 #[.int .i64 (k + 1)] w fun e w' => e = .returned (.tuple #[.agg (cellsOf (rowAt k)),.int .i64 0]) ∧ Below w.heap.size w w':=by
 have hu:=Tryz.underlying127
 have g0 : (0 : Int) ≤ k:=by omega
 have g1 : (k : Int) < 58:=by omega
 have ix : ∀ w : World,(Instr.index 148 (.agg T58) (.int .i64 k)).run Tryz.prog w = .ok (.agg #[.string (rowAt k).1,.int .i64 (rowAt k).2.1,.int .i64 (rowAt k).2.2.1,.string (rowAt k).2.2.2.1,.string (rowAt k).2.2.2.2]) w:=index_at k hk
 unfold cellsOf
 generalize rowAt k = r at ix ⊢
 go_enter Tryz.func80,Tryz.ntmps80
 go_wp2_with (first | (go_at_call 104; refine (table_calls _).mono ?_; rintro e w' ⟨rfl,hb⟩; obtain ⟨hc,hf⟩:=bcell hb))
 refine bodyPost_ret (results_ct rfl _ _ w.heap.size 127 #[.string r.1,.int .i64 r.2.1,.int .i64 r.2.2.1,.string r.2.2.2.1,.string r.2.2.2.2] (0,0) _ rfl ?hb hu rfl (by kernel_rfl)) rfl ⟨rfl,?_⟩
 case hb =>
  refine blk_put (cs:=#[.string r.1,.int .i64 r.2.1,.int .i64 r.2.2.1,.string r.2.2.2.1,.string ⟨#[]⟩]) ?_ 4 _ rfl
  refine blk_put (cs:=#[.string r.1,.int .i64 r.2.1,.int .i64 r.2.2.1,.string ⟨#[]⟩,.string ⟨#[]⟩]) ?_ 3 _ rfl
  refine blk_put (cs:=#[.string r.1,.int .i64 r.2.1,.int .i64 0,.string ⟨#[]⟩,.string ⟨#[]⟩]) ?_ 2 _ rfl
  refine blk_put (cs:=#[.string r.1,.int .i64 0,.int .i64 0,.string ⟨#[]⟩,.string ⟨#[]⟩]) ?_ 1 _ rfl
  refine blk_put (cs:=#[.string ⟨#[]⟩,.int .i64 0,.int .i64 0,.string ⟨#[]⟩,.string ⟨#[]⟩]) ?_ 0 _ rfl
  exact blk_below (blk_new _ _) hb
 iterate 5 refine Below.setCell ?_ (Nat.le_refl w.heap.size) _
 refine Below.trans ((Below.refl w.heap.size w).alloc (Nat.le_refl _) _) (hb.mono ?_)
 rw [World.size_alloc]
 exact Nat.le_succ _
set_option maxHeartbeats 1000000 in
set_option maxRecDepth 100000 in
theorem find_out (n : Int) (h : n ≤ 0 ∨ 59 ≤ n) (w : World) :
  Calls Tryz.prog 80 #[.int .i64 n] w fun e w' => e = .returned (.tuple #[.agg (cellsOf row0),.int .i64 60]) ∧ Below w.heap.size w w':=by
 have hu:=Tryz.underlying127
 unfold cellsOf row0
 rcases h with h | h
 all_goals
  go_enter Tryz.func80,Tryz.ntmps80
  go_wp2
  refine bodyPost_ret (results_ct rfl _ _ w.heap.size 127 #[.string ⟨#[]⟩,.int .i64 0,.int .i64 0,.string ⟨#[]⟩,.string ⟨#[]⟩] (0,0) _ rfl ?_ hu rfl (by kernel_rfl)) rfl ⟨rfl,?_⟩
  ·exact blk_new _ _
  exact (Below.refl _ _).alloc (Nat.le_refl _) _
end Go.Proofs.YtdbpglhdicmhhaaGreatDoor.Hfind
end
