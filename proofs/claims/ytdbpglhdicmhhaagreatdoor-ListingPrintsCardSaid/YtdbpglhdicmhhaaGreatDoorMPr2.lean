import Derived.Test.YtdbpglhdicmhhaaGreatDoorMPr0
import Derived.Test.YtdbpglhdicmhhaaGreatDoorMPr1
import Derived.Test.YtdbpglhdicmhhaaGreatDoorRows
import Derived.ChangeArms
import Derived.DataReads
import Derived.OpenShut
import Derived.DataElems
import Derived.SizedLaws
import Derived.ProofKit
import Derived.Laws.Tables
import Derived.Laws.Rows
import Derived.WalkKit
import Derived.Deep.MidRow
set_option linter.unusedVariables false
set_option linter.unusedSimpArgs false
section
namespace Go.Proofs.YtdbpglhdicmhhaaGreatDoorW.aZ
open Go.RowKit Go.Proofs.YtdbpglhdicmhhaaGreatDoorW.aI
namespace Kd
open Go.Proofs.YtdbpglhdicmhhaaGreatDoorW.aI.Kd
end Kd
namespace Kd
open Go.Proofs.YtdbpglhdicmhhaaGreatDoorW.aI.Kd
section
variable {α : Type} {d : Kd α} {e base g N : Nat} {ok : Nat → Prop} {W w1 : World} {u v : Value} {xs : List α}
end
end Kd
end Go.Proofs.YtdbpglhdicmhhaaGreatDoorW.aZ
namespace Go.Proofs.YtdbpglhdicmhhaaGreatDoorW.aI
open Go.RowKit
section
variable {P : Program} {ops : Array Oper} {rest : List Oper} {o : Oper} {a : Act} {Q : Exit → Act → World → Prop} {W : World}
theorem dn {f : FuncId} {as_ : Array Operand} {ts : Array TypeId} (_ho : o.op = .call { callee:=.value (.func f),args:=as_,argTypes:=ts }) (h : wpList P ops Q (o :: rest) a W) : wpList P ops Q (o :: rest) a W:=h
theorem jB {b : Builtin} {xs : Array Operand} {ts : Array TypeId} (_ho : o.op = .call { callee:=.builtin b,args:=xs,argTypes:=ts }) (h : wpList P ops Q (o :: rest) a W) : wpList P ops Q (o :: rest) a W:=h
end
def mx (a b : Int) : Int:=if a < b then b else a
namespace Kd
section
variable {α : Type} {d : Kd α} {e base : Nat} {ok : Nat → Prop} {W w1 : World} {v : Value} {xs : List α}
end
section
variable {α : Type} {d : Kd α} {e base g n cap : Nat} {ok oki Df : Nat → Prop} {W : World} {xs : List α} {i : Int} {c : List Value}
end
section
variable {α : Type} {d : Kd α} {e base b b' g N : Nat} {ok ok1 : Nat → Prop} {W W2 w1 : World} {u v : Value} {xs ys : List α} {S : Nat → Prop}
end
end Kd
end Go.Proofs.YtdbpglhdicmhhaaGreatDoorW.aI
namespace Go.Proofs.YtdbpglhdicmhhaaGreatDoorW.aI
open Go.RowKit
namespace Kd
section
variable {α β : Type} {d : Kd α} {e base base' n m c g N' lo hi : Nat} {ok ok' S : Nat → Prop} {w W w1 : World} {A : Option Addr} {ad : Addr} {u v v1 : Value} {xs : List α}
end
end Kd
end Go.Proofs.YtdbpglhdicmhhaaGreatDoorW.aI
end

section
namespace Go.Proofs.YtdbpglhdicmhhaaGreatDoor.Opn
open Go.Proofs.YtdbpglhdicmhhaaGreatDoorW.aI
structure Opens {α : Type} (P : Program) (t : TypeId) (d : Kd α) (G : α → Nat → Prop) : Prop where
 size : P.cellsOf t = d.sz
 mono : ∀ x m n,m ≤ n → G x m → G x n
 opens : ∀ {H : Type} (enc : TypeId × Value → H) (w : World) (base : Nat) (spare : Nat → Bool) (held : Bool) (fuel : Nat) (cs : List Value) (x : DataW H × List MemPlace),
  DataW.trod enc P w base spare held fuel t cs = some x → (∀ n ∈ x.1.weights P t,n ≤ reachBytes) → ∃ v,d.K w v cs ∧ G v (Rows.uptoBulk x.1)
variable {P : Program} {t e : TypeId}
def JI (k : IntKind) (v : Int) (_ : Nat) : Prop:=(Lit.int k v).wf = true
def ad5 (_ : Bool) (_ : Nat) : Prop:=True
def Yk {α : Type} (B : Nat) (G : α → Nat → Prop) (xs : List α) (n : Nat) : Prop:=xs.length * B ≤ 140737488351232 ∧ xs.length ≤ maxLen ∧ xs.length < n ∧ ∀ x ∈ xs,G x n
theorem Kw {k : IntKind} (ht : P.underlying t = some (.int k)) (hc : P.cellsOf t = 1) : Opens P t (Kd.int k) (JI k) where
 size:=hc
 mono:=fun _ _ _ _ h => h
 opens:=by
  intro H enc w base spare held fuel cs x h _
  obtain ⟨n,rfl,rfl,hw⟩:=DataW.trod_int ht h
  exact ⟨n,rfl,hw⟩
theorem Q7 (ht : P.underlying t = some .bool) (hc : P.cellsOf t = 1) : Opens P t Kd.bool ad5 where
 size:=hc
 mono:=fun _ _ _ _ h => h
 opens:=by
  intro H enc w base spare held fuel cs x h _
  obtain ⟨b,rfl,rfl⟩:=DataW.trod_bool ht h
  exact ⟨b,rfl,trivial⟩
theorem GX {H : Type} {P : Program} {e : TypeId} : ∀ {l : List (DataW H)} {d : DataW H},d ∈ l → ∀ n ∈ d.weights P e,n ∈ DataW.weightsAll P e l
 | a :: l,d,hd,n,hn => by
  rw [DataW.weightsAll]
  rcases List.mem_cons.1 hd with rfl | hd
  ·exact List.mem_append_left _ hn
  ·exact List.mem_append_right _ (GX hd n hn)
theorem IK {H : Type} : ∀ {l : List (DataW H)} {d : DataW H},d ∈ l → Rows.uptoBulk d ≤ Rows.uptoBulkAll l
 | a :: l,d,hd => by
  rw [Rows.uptoBulkAll]
  rcases List.mem_cons.1 hd with rfl | hd
  ·omega
  ·have:=IK hd; omega
theorem VO {H : Type} (d : DataW H) : 1 ≤ Rows.uptoBulk d:=by
 cases d with
 | lit l => cases l <;> simp [Rows.uptoBulk]
 | _ => simp [Rows.uptoBulk]
theorem OB {H : Type} : ∀ l : List (DataW H),l.length ≤ Rows.uptoBulkAll l
 | [] => by simp
 | a :: l => by rw [Rows.uptoBulkAll]; have:=OB l; have:=VO a; simp; omega
theorem Gq {α : Type} {R : Nat → α → Prop} : ∀ (n : Nat),(∀ i < n,∃ v,R i v) → ∃ l : List α,l.length = n ∧ ∀ i v,l[i]? = some v → R i v
 | 0,_ => ⟨[],rfl,fun i v h => by simp at h⟩
 | n + 1,h => by
  obtain ⟨l,hl,hr⟩:=Gq n (fun i hi => h i (by omega))
  obtain ⟨v,hv⟩:=h n (by omega)
  refine ⟨l ++ [v],by simp [hl],fun i u hu => ?_⟩
  rcases Nat.lt_or_ge i l.length with hi | hi
  ·rw [List.getElem?_append_left hi] at hu
   exact hr i u hu
  ·rw [List.getElem?_append_right hi] at hu
   have h0 : i - l.length = 0:=by
    rcases Nat.eq_zero_or_pos (i - l.length) with h0 | h0
    ·exact h0
    ·rw [List.getElem?_eq_none (by simp; omega)] at hu; cases hu
   rw [h0] at hu
   obtain rfl : v = u:=by simpa using hu
   obtain rfl : i = n:=by omega
   exact hv
theorem zY {α : Type} {d : Kd α} {G : α → Nat → Prop} {B : Nat} (he : Opens P e d G) (ht : P.underlying t = some (.slice e)) (hc : P.cellsOf t = 1) (hB : P.bytesOf e = B) : Opens P t (Kd.slice e d) (Yk B G) where
 size:=hc
 mono:=fun _ _ _ hmn h => ⟨h.1,h.2.1,Nat.lt_of_lt_of_le h.2.2.1 hmn,fun x hx => he.mono _ _ _ hmn (h.2.2.2 x hx)⟩
 opens:=by
  intro H enc w base spare held fuel cs x h hw
  rcases DataW.trod_slice ht h with ⟨rfl,rfl⟩ | ⟨a,len,cap,elems,rest,n,rfl,rfl,rfl,hb,hl,hm,hlen,hel,_,_⟩
  ·exact ⟨[],⟨none,0,rfl,Nat.le_refl _,Kd.ad4 d w⟩,by simp,by simp,by simp [Rows.uptoBulk],by simp⟩
  ·simp only [DataW.weights,ht] at hw
   have afb : Rows.uptoBulkAll (elems.map (·.1)) < Rows.uptoBulk (DataW.slice (elems.map (·.1)) (rest.map (·.1))):=by rw [Rows.uptoBulk]; omega
   have each : ∀ i < len,∃ v,∃ c,d.K w v c ∧ G v (Rows.uptoBulk (DataW.slice (elems.map (·.1)) (rest.map (·.1)))) ∧ w.cells? base (a.add (i * P.cellsOf e)) (P.cellsOf e) = some c:=by
    intro i hi
    have h1:=hel i hi
    rw [List.getElem?_eq_getElem (by omega)] at h1
    obtain ⟨c,hc1,hc2⟩:=Option.bind_eq_some_iff.1 h1
    have hmem : elems[i].1 ∈ elems.map (·.1):=List.mem_map.2 ⟨_,List.getElem_mem _,rfl⟩
    obtain ⟨v,hv1,hv2⟩:=he.opens enc w base spare held n c _ hc2 (fun q hq => hw q (List.mem_cons_of_mem _ (List.mem_append_left _ (GX hmem q hq))))
    exact ⟨v,c,hv1,he.mono _ _ _ (by have:=IK hmem; omega) hv2,hc1⟩
   obtain ⟨l,hl1,hl2⟩:=Gq len each
   refine ⟨l,⟨some a,cap,by rw [hl1],by omega,?_⟩,?_,by rw [hl1]; omega,?_,?_⟩
   ·rw [hl1]
    refine ⟨hl1,by unfold maxLen at hm; omega,fun _ => ⟨a,rfl,fun j p hj => ?_⟩⟩
    obtain ⟨c,hc1,_,hc3⟩:=hl2 j p hj
    obtain ⟨_,hc4,hc5⟩:=World.cells?_some hc3
    refine ⟨c,by rw [hc4,he.size],hc1,fun i u hu => ?_⟩
    have hi : i < P.cellsOf e:=by
     rcases Nat.lt_or_ge i c.length with h | h
     ·omega
     ·rw [List.getElem?_eq_none h] at hu; cases hu
    have:=hc5 i hi
    rw [hu] at this
    rw [← this,← he.size]
    rw [Addr.add_add]
   ·have h1:=hw _ (List.mem_cons_self)
    rw [hl1,← hB,← hlen]
    have h2 : elems.length * P.bytesOf e ≤ ((elems.map (·.1)).length + (rest.map (·.1)).length) * P.bytesOf e:=Nat.mul_le_mul_right _ (by simp)
    exact Nat.le_trans h2 (by simpa [reachBytes] using h1)
   ·rw [hl1,← hlen]
    have:=OB (elems.map (·.1))
    simp at this ⊢
    simp at afb
    omega
   ·intro x hx
    obtain ⟨i,hi,rfl⟩:=List.getElem_of_mem hx
    exact (hl2 i _ (List.getElem?_eq_getElem hi)).choose_spec.2.1
structure Ed {α : Type} (P : Program) (ts : List TypeId) (d : Kd α) (G : α → Nat → Prop) : Prop where
 size : (ts.map P.cellsOf).sum = d.sz
 mono : ∀ x m n,m ≤ n → G x m → G x n
 opens : ∀ {H : Type} (enc : TypeId × Value → H) (w : World) (base : Nat) (spare : Nat → Bool) (held : Bool) (fuel : Nat) (cs : List Value) (xs : List (DataW H × List MemPlace)),
  cs.length = d.sz → xs.length = ts.length →
  (∀ i t,ts[i]? = some t → ∃ y,xs[i]? = some y ∧ DataW.trod enc P w base spare held fuel t ((cs.drop ((ts.take i).map P.cellsOf).sum).take (P.cellsOf t)) = some y ∧ ∀ n ∈ y.1.weights P t,n ≤ reachBytes) →
  ∃ v,d.K w v cs ∧ G v (Rows.uptoBulkAll (xs.map (·.1)))
theorem Ip {α : Type} {d : Kd α} {G : α → Nat → Prop} (h : Opens P t d G) : Ed P [t] d G where
 size:=by simp [h.size]
 mono:=h.mono
 opens:=by
  intro H enc w base spare held fuel cs xs hl hx hf
  obtain ⟨y,hy,ht,hw⟩:=hf 0 t rfl
  have e : (cs.drop 0).take (P.cellsOf t) = cs:=by rw [List.drop_zero,List.take_of_length_le (by rw [hl,h.size]; exact Nat.le_refl _)]
  simp only [List.take_zero,List.map_nil,List.sum_nil] at ht
  rw [e] at ht
  obtain ⟨v,h1,h2⟩:=h.opens enc w base spare held fuel cs y ht hw
  exact ⟨v,h1,h.mono _ _ _ (IK (List.mem_map.2 ⟨y,List.mem_of_getElem? hy,rfl⟩)) h2⟩
def Gl {α β : Type} (G : α → Nat → Prop) (G' : β → Nat → Prop) (x : α × β) (n : Nat) : Prop:=G x.1 n ∧ G' x.2 n
theorem xX {α β : Type} {d : Kd α} {G : α → Nat → Prop} {ts : List TypeId} {d' : Kd β} {G' : β → Nat → Prop} (h : Opens P t d G) (h' : Ed P ts d' G') : Ed P (t :: ts) (Kd.pair d d') (Gl G G') where
 size:=by show _ = d.sz + d'.sz; simp [h.size,← h'.size]
 mono:=fun x m n hmn hx => ⟨h.mono _ _ _ hmn hx.1,h'.mono _ _ _ hmn hx.2⟩
 opens:=by
  intro H enc w base spare held fuel cs xs hl hx hf
  replace hl : cs.length = d.sz + d'.sz:=hl
  obtain ⟨y,hy,ht,hw⟩:=hf 0 t rfl
  simp only [List.take_zero,List.map_nil,List.sum_nil,List.drop_zero] at ht
  obtain ⟨v,h1,h2⟩:=h.opens enc w base spare held fuel _ y ht hw
  match xs,hx with
  | [],hx => simp at hx
  | x0 :: xs,hx =>
   obtain rfl : x0 = y:=by simpa using hy
   obtain ⟨v',h3,h4⟩:=h'.opens enc w base spare held fuel (cs.drop (P.cellsOf t)) xs (by rw [List.length_drop,hl,h.size]; omega) (by simpa using hx) (fun i t' hi => by
    obtain ⟨y',hy',ht',hw'⟩:=hf (i + 1) t' (by simpa using hi)
    refine ⟨y',by simpa using hy',?_,hw'⟩
    rw [List.drop_drop]
    simpa [List.take_succ_cons] using ht')
   refine ⟨(v,v'),⟨cs.take (P.cellsOf t),cs.drop (P.cellsOf t),(List.take_append_drop _ _).symm,h1,h3⟩,?_,?_⟩
   ·refine h.mono _ _ _ ?_ h2
    rw [List.map_cons,Rows.uptoBulkAll]; omega
   ·refine h'.mono _ _ _ ?_ h4
    rw [List.map_cons,Rows.uptoBulkAll]; omega
def TR (P : Program) : Nat → List Field → Bool
 | _,[] => true
 | o,f :: r => (f.offset == o) && TR P (o + P.cellsOf f.type) r
theorem TS : ∀ {l : List Field} {o : Nat},TR P o l = true → ∀ i f,l[i]? = some f → f.offset = o + (((l.map (·.type)).take i).map P.cellsOf).sum
 | [],o,_,i,f,hf => by simp at hf
 | a :: l,o,h,i,f,hf => by
  simp only [TR,Bool.and_eq_true,beq_iff_eq] at h
  cases i with
  | zero =>
  obtain rfl : a = f:=by simpa using hf
  simp [h.1]
  | succ i =>
   have:=TS h.2 i f (by simpa using hf)
   rw [this]
   simp [List.take_succ_cons]; omega
theorem NY {H : Type} : ∀ {ts : List TypeId} {ds : List (DataW H)} {i : Nat} {t : TypeId} {d : DataW H},ts[i]? = some t → ds[i]? = some d → ∀ n ∈ d.weights P t,n ∈ DataW.weightsEach P ts ds :=
 fun ht hd n hn => DataW.weights_mem_each ht hd n hn
theorem wX {α β : Type} {d : Kd α} {G : α → Nat → Prop} {fs : Array Field} {ts : List TypeId} (h : Ed P ts d G) (ht : P.underlying t = some (.struct fs)) (hts : fs.toList.map (·.type) = ts) (ho : TR P 0 fs.toList = true)
  (hc : P.cellsOf t = d.sz) (f : β → α) (g : α → β) (hfg : ∀ a,f (g a) = a) : Opens P t (Kd.iso d f) (fun x n => G (f x) n) where
 size:=hc
 mono:=fun x m n hmn hx => h.mono _ _ _ hmn hx
 opens:=by
  intro H enc w base spare held fuel cs x hx hw
  obtain ⟨xs,n,_,rfl,hl,hlen,hf⟩:=DataW.trod_struct ht hx
  have hlen2 : xs.length = ts.length:=by rw [hlen,← hts]; simp
  simp only [DataW.weights,ht,hts] at hw
  obtain ⟨v,h1,h2⟩:=h.opens enc w base spare held n cs xs (hl.trans hc) hlen2 (fun i t' hi => by
   have hi2 : i < ts.length:=by
    rcases Nat.lt_or_ge i ts.length with h | h
    ·exact h
    ·rw [List.getElem?_eq_none h] at hi; cases hi
   have hfi : ∃ fi : Field,fs[i]? = some fi ∧ fi.type = t':=by
    rw [← hts,List.getElem?_map] at hi
    obtain ⟨fi,h3,h4⟩:=Option.map_eq_some_iff.1 hi
    exact ⟨fi,by simpa using h3,h4⟩
   obtain ⟨fi,afd,rfl⟩:=hfi
   have h5:=hf i fi afd
   refine ⟨xs[i],List.getElem?_eq_getElem (by omega),?_,?_⟩
   ·rw [List.getElem?_eq_getElem (by omega)] at h5
    have:=TS ho i fi (by simpa using afd)
    rw [hts,Nat.zero_add] at this
    rw [← this]
    exact h5
   ·intro q hq
    exact hw q (NY hi (by rw [List.getElem?_map,List.getElem?_eq_getElem (by omega)]; rfl) q hq))
  refine ⟨g v,by show d.K w (f (g v)) cs; rw [hfg]; exact h1,?_⟩
  show G (f (g v)) _
  rw [hfg]
  exact h.mono _ _ _ (by rw [Rows.uptoBulk]; omega) h2
end Go.Proofs.YtdbpglhdicmhhaaGreatDoor.Opn
end

section
namespace Go.Proofs.YtdbpglhdicmhhaaGreatDoor
open Go.RowKit Go.Proofs.YtdbpglhdicmhhaaGreatDoorW.aI
section
variable {P : Program} {ops : Array Oper} {rest : List Oper} {o : Oper} {a : Act} {Q : Exit → Act → World → Prop}
theorem BX (W : World) (g : Nat) (cs : Array Value) : eu W (W.setRow g cs) g none :=
 ⟨Nat.le_of_eq (size_setRow W g cs).symm,fun i _ hi _ => setRow_other W g i cs hi⟩
theorem Dv {B : Nat} {w W : World} (h : Below B w W) {g : Nat} (hg : B ≤ g) (cs : Array Value) : Below B w (W.setRow g cs) :=
 ⟨h.os,h.tape,h.output,by rw [size_setRow]; exact h.size,fun i hi => by rw [setRow_other W g i cs (by omega)]; exact h.block i hi⟩
theorem CY {W : World} (hgd : o.guard = none) {t : TypeId} {p : Tmp} {v : Operand} (ho : o.op = .store t (.tmp p) v) (hN : o.dst = none) (g : Nat) {tb : TypeId} (old cs : Array Value)
  (hp : a.eval (.tmp p) = .pointer (some ⟨g,0,none⟩)) (hv : a.eval v = .agg cs) (hb : W.heap[g]? = some (.cells old tb (0,0))) (hi : (P.info? t).map (·.size) = some cs.size) (hs : old.size = cs.size) (h1 : cs.all (·.oneCell') = true)
  (h : ∀ w',w'.heap[g]? = some (.cells cs tb (0,0)) → eu W w' g none → (∀ w0 : World,Below w0.heap.size w0 W → w0.heap.size ≤ g → Below w0.heap.size w0 w') → wpList P ops Q rest a w') : wpList P ops Q (o :: rest) a W:=by
 refine wpList_store_row hgd t (.tmp p) v ho g cs hp hv tb old hb hi hs h1 ?_
 rw [hN]
 exact h _ (setRow_heap _ _ _ _ _ _ hb) (BX W g cs) (fun w0 hB hg => Dv hB hg cs)
theorem QX {W : World} (hgd : o.guard = none) {N : Tmp} (_hd : o.dst = some N) {t : TypeId} {p : Tmp} (ho : o.op = .load t (.tmp p)) (ad : Addr) (v : Value)
  (hp : a.eval (.tmp p) = .pointer (some ad)) (hna : ∀ w,(isAgg t).run P w = .ok false w) (hc : W.cell? ad = some v)
  (h : wpList P ops Q rest (a.put o.dst v) W) : wpList P ops Q (o :: rest) a W:=by
 refine Kd.vK (v:=v) (w1:=W) hgd ?_ h
 have hl : (loadVar t ad).run P W = .ok v W:=by
  unfold loadVar
  rw [Sem.run_bind,hna W]
  show (load ad).run P W = _
  rw [run_load,hc]
 unfold execOp
 simp only [ho,hp,Instr.loadAt,Instr.sureAddr,Sem.run_bind,Sem.run_pure,Result.andThen_ok,hl]
theorem IU {W : World} (hgd : o.guard = none) {t : TypeId} {p : Tmp} {v : Operand} (ho : o.op = .store t (.tmp p) v) (hN : o.dst = none) (g j : Nat) {tb : TypeId} (cs : Array Value) (u : Value)
  (hp : a.eval (.tmp p) = .pointer (some ⟨g,j,none⟩)) (hv : a.eval v = u) (hb : W.heap[g]? = some (.cells cs tb (0,0))) (hj : (cs[j]?).isSome = true) (hi : (P.info? t).map (·.size) = some 1) (h1 : u.oneCell' = true)
  (h : ∀ w',w'.heap[g]? = some (.cells (cs.setIfInBounds j u) tb (0,0)) → eu W w' g none → (∀ w0 : World,Below w0.heap.size w0 W → w0.heap.size ≤ g → Below w0.heap.size w0 w') → wpList P ops Q rest a w') : wpList P ops Q (o :: rest) a W:=by
 refine Qa (w1:=W.setCell ⟨g,j,none⟩ u) hgd ho hN ?_ (fun w' hw => ?_)
 ·obtain ⟨z,hz⟩:=Option.isSome_iff_exists.1 hj
  have hc : W.cell? ⟨g,j,none⟩ = some z:=(aA hb j).trans hz
  have hf : W.frozen? ⟨g,j,none⟩ = false:=au hb j
  have hs : (store (⟨g,j,none⟩ : Addr) u).run P W = .ok () (W.setCell ⟨g,j,none⟩ u):=by
   rw [run_store P W _ u _ h1,hc]
   simp [hf]
  have hcells : u.cells = #[u]:=by cases u <;> first | rfl | simp [Value.oneCell'] at h1
  have hsv : (storeVar t ⟨g,j,none⟩ u).run P W = .ok () (W.setCell ⟨g,j,none⟩ u):=by
   cases hq : P.info? t with
   | none => simp [hq] at hi
   | some i =>
    have hz : i.size = 1:=by simpa [hq] using hi
    have ha : (⟨g,j,none⟩ : Addr).add 0 = ⟨g,j,none⟩:=by unfold Addr.add; simp
    have hs' : (store ((⟨g,j,none⟩ : Addr).add 0) u).run P W = .ok () (W.setCell ⟨g,j,none⟩ u):=by rw [ha]; exact hs
    simp [storeVar,sizeOf,typeInfo,hq,hcells,hz,storeCells,hs']
  unfold execOp
  simp only [ho,hp,hv,Instr.storeAt,Instr.sureAddr,Sem.run_bind,Sem.run_pure,Result.andThen_ok,hsv]
 ·subst hw
  exact h _ (Eh hb j u) ((eu.refl W g none).set_ j u) (fun w0 hB hg => aN hB hg)
end
end Go.Proofs.YtdbpglhdicmhhaaGreatDoor
end

section
namespace Go.Proofs.YtdbpglhdicmhhaaGreatDoor.iM
open Go.RowKit Go.Proofs.YtdbpglhdicmhhaaGreatDoorW.aI Go.Proofs.YtdbpglhdicmhhaaGreatDoorW.aX Go.Proofs.YtdbpglhdicmhhaaGreatDoorW.aZ
structure Row where
 {α : Type}
 (d : Kd α) (e : TypeId) (v : Value) (xs : List α)
def PE (rows : List Row) (i k : Nat) : Prop:=∀ (j : Nat) (s : Row),rows[j]? = some s → j ≠ i → some k ≠ s.v.ownBlock
structure Mem (es : List TypeId) (w0 W : World) (l : List (Nat × Array Value × TypeId)) (rows : List Row) : Prop where
 below : Below w0.heap.size w0 W
 blk : ∀ x,x ∈ l → W.heap[x.1]? = some (.cells x.2.1 x.2.2 (0,0)) ∧ w0.heap.size ≤ x.1 ∧ x.2.2 ∉ es
 apart : l.Pairwise (fun x y => x.1 ≠ y.1)
 typ : ∀ r,r ∈ rows → ∀ q,q ∈ r.e :: r.d.E → q ∈ es
 owns : ∀ (i : Nat) (r : Row),rows[i]? = some r → r.d.R r.e W w0.heap.size (PE rows i) r.v r.xs
variable {es : List TypeId} {w0 W W1 : World} {l : List (Nat × Array Value × TypeId)} {rows : List Row} {α : Type} {d : Kd α} {e : TypeId} {v : Value} {xs : List α}
theorem Mem.start (es : List TypeId) (w0 : World) : Mem es w0 w0 [] []:=⟨Below.refl _ _,(fun x hx => by cases hx),List.Pairwise.nil,(fun r hr => by cases hr),(fun i r hr => by simp at hr)⟩
theorem Mem.own (M : Mem es w0 W l (⟨d,e,v,xs⟩ :: rows)) : d.R e W w0.heap.size (fun _ => True) v xs:=Kd.sJ (M.owns 0 _ rfl) (fun _ _ => trivial)
theorem Mem.at (M : Mem es w0 W l rows) (i : Nat) {g : Nat} {cs : Array Value} {t : TypeId} (h : l[i]? = some (g,cs,t)) : W.heap[g]? = some (.cells cs t (0,0)) :=
 (M.blk _ (List.mem_of_getElem? h)).1
theorem Mem.ge (M : Mem es w0 W l rows) (i : Nat) {g : Nat} {cs : Array Value} {t : TypeId} (h : l[i]? = some (g,cs,t)) : w0.heap.size ≤ g :=
 (M.blk _ (List.mem_of_getElem? h)).2.1
theorem Mem.ne (M : Mem es w0 W l rows) (i j : Nat) (hij : i < j) {g g' : Nat} {cs cs' : Array Value} {t t' : TypeId} (h : l[i]? = some (g,cs,t)) (h' : l[j]? = some (g',cs',t')) : g ≠ g':=by
 have hi:=(List.getElem?_eq_some_iff.1 h)
 have hj:=(List.getElem?_eq_some_iff.1 h')
 have:=List.pairwise_iff_getElem.1 M.apart i j hi.1 hj.1 hij
 rw [hi.2,hj.2] at this
 exact this
theorem Mem.call (M : Mem es w0 W l rows) (hb : Below W.heap.size W W1) : Mem es w0 W1 l rows :=
 ⟨bP M.below hb,fun x hx => ⟨bU (M.blk x hx).1 hb,(M.blk x hx).2⟩,M.apart,M.typ,fun i r hr => Kd.zQ (M.owns i r hr) hb⟩
theorem Mem.drewN (M : Mem es w0 W l rows) (n : Nat) : Mem es w0 (W.drewN n) l rows :=
 ⟨aj M.below n,fun x hx => ⟨aG (M.blk x hx).1 n,(M.blk x hx).2⟩,M.apart,M.typ,fun i r hr => Kd.tC (M.owns i r hr) n⟩
theorem Mem.box (M : Mem es w0 W l rows) {g : Nat} {cs : Array Value} {t : TypeId} (hg : g = W.heap.size) (hbox : W1.heap[g]? = some (.cells cs t (0,0))) (hb : Below W.heap.size W W1) (ht : t ∉ es) : Mem es w0 W1 (l ++ [(g,cs,t)]) rows:=by
 have M1:=M.call hb
 refine ⟨M1.below,fun x hx => ?_,?_,M1.typ,M1.owns⟩
 ·rcases List.mem_append.1 hx with h | h
  ·exact M1.blk x h
  ·rw [List.mem_singleton] at h; subst h
   exact ⟨hbox,by rw [hg]; exact bV M.below,ht⟩
 ·refine List.pairwise_append.2 ⟨M1.apart,List.pairwise_singleton _ _,fun x hx y hy => ?_⟩
  rw [List.mem_singleton] at hy; subst hy
  have:=je (M.blk x hx).1
  show x.1 ≠ g
  omega
theorem Mem.keep (M : Mem es w0 W l rows) (i : Nat) {g : Nat} {cs cs' : Array Value} {t : TypeId} (h : l[i]? = some (g,cs,t)) (hn : W1.heap[g]? = some (.cells cs' t (0,0))) (hk : eu W W1 g none) (hb : Below w0.heap.size w0 W1) : Mem es w0 W1 (l.set i (g,cs',t)) rows:=by
 have hi:=List.getElem?_eq_some_iff.1 h
 have ht:=(M.blk _ (List.mem_of_getElem? h))
 refine ⟨hb,fun x hx => ?_,?_,M.typ,?_⟩
 ·obtain ⟨j,hj⟩:=List.mem_iff_getElem?.1 hx
  rw [List.getElem?_set] at hj
  by_cases hij : i = j
  ·subst hij
   rw [if_pos rfl,if_pos hi.1] at hj
   obtain rfl:=Option.some.inj hj
   exact ⟨hn,ht.2⟩
  ·rw [if_neg hij] at hj
   have hxl:=List.mem_of_getElem? hj
   refine ⟨hk.blk (M.blk x hxl).1 ?_ (by simp),(M.blk x hxl).2⟩
   rcases Nat.lt_or_gt_of_ne hij with hlt | hlt
   ·exact (M.ne i j hlt h (g':=x.1) (cs':=x.2.1) (t':=x.2.2) hj).symm
   ·exact M.ne j i hlt (g:=x.1) (cs:=x.2.1) (t:=x.2.2) hj h
 ·rw [List.pairwise_iff_getElem]
  intro a b ha hb' hab
  rw [List.length_set] at ha hb'
  have:=List.pairwise_iff_getElem.1 M.apart a b ha hb' hab
  rw [List.getElem_set,List.getElem_set]
  by_cases h1 : i = a
  ·subst h1
   rw [if_pos rfl,if_neg (by omega)]
   rw [hi.2] at this
   exact this
  ·rw [if_neg h1]
   by_cases h2 : i = b
   ·subst h2
    rw [if_pos rfl]
    rw [hi.2] at this
    exact this
   ·rw [if_neg h2]; exact this
 ·intro j r hr
  exact Kd.sJ (Kd.abC (Kd.YD (M.owns j r hr) ht.1 (fun q hq hqt => ht.2.2 (by
   have:=M.typ r (List.mem_of_getElem? hr) q hq
   rwa [hqt] at this))) hk (fun _ h_ => h_.2)) (fun _ h_ => h_.1)
theorem Mem.set (M : Mem es w0 W l rows) (i : Nat) {g : Nat} {cs : Array Value} {t : TypeId} (h : l[i]? = some (g,cs,t)) (j : Nat) (u : Value) : Mem es w0 (W.setCell ⟨g,j,none⟩ u) (l.set i (g,cs.setIfInBounds j u,t)) rows :=
 M.keep i h (Eh (M.at i h) j u) ((eu.refl W g none).set_ j u) (aN M.below (M.ge i h))
theorem Mem.row (M : Mem es w0 W l rows) (hb : Below W.heap.size W W1) (h : d.R e W1 W.heap.size (fun _ => True) v xs) (ht : ∀ q,q ∈ e :: d.E → q ∈ es:=by decide) : Mem es w0 W1 l (⟨d,e,v,xs⟩ :: rows):=by
 have M1:=M.call hb
 refine ⟨M1.below,M1.blk,M1.apart,fun r hr => ?_,fun i r hr => ?_⟩
 ·rcases List.mem_cons.1 hr with rfl | hr
  ·exact ht
  ·exact M.typ r hr
 ·cases i with
  | zero =>
   obtain rfl : _ = r:=by simpa using hr
   refine Kd.Bd (Kd.sJ (Kd.Bc h) (fun k hk j s hs hj hks => ?_)) (bV M.below)
   obtain ⟨j,rfl⟩ : ∃ m,j = m + 1:=⟨j - 1,by omega⟩
   have:=Kd.aeI (M.owns j s (by simpa using hs)) k hks.symm
   have:=hk.2.1
   omega
  | succ i =>
   have hr' : rows[i]? = some r:=by simpa using hr
   refine Kd.sJ (Kd.zQ (Kd.Bc (M.owns i r hr')) hb) (fun k hk j s hs hj hks => ?_)
   cases j with
   | zero =>
    obtain rfl : _ = s:=by simpa using hs
    have:=Kd.KR h k hks.symm
    have:=hk.2.2.1
    omega
   | succ j => exact hk.1 j s (by simpa using hs) (by omega) hks
theorem Mem.cell (M : Mem es w0 W l rows) (i : Nat) {g : Nat} {cs : Array Value} {t : TypeId} (h : l[i]? = some (g,cs,t)) (j : Nat) : W.cell? ⟨g,j,none⟩ = cs[j]?:=aA (M.at i h) j
theorem Mem.free (M : Mem es w0 W l rows) (i : Nat) {g : Nat} {cs : Array Value} {t : TypeId} (h : l[i]? = some (g,cs,t)) (j : Nat) : W.frozen? ⟨g,j,none⟩ = false:=au (M.at i h) j
theorem Mem.range (M : Mem es w0 W l rows) (i : Nat) {g : Nat} {cs : Array Value} {t : TypeId} (h : l[i]? = some (g,cs,t)) : W.rangeAt g 0 cs.toList:=fun j u hu => by
 rw [Nat.zero_add,M.cell i h j]; simpa using hu
theorem DC (g : Nat) : ∀ (us : List Value) (o : Nat) (W : World),eu W (W.setCells g o us) g none
 | [],_,W => eu.refl W g none
 | u :: us,o,W => by
  rw [World.setCells]
  exact eu.trans ((eu.refl W g none).set_ o u) (DC g us (o + 1) _) (.inl rfl)
theorem uT {B : Nat} {w : World} (g : Nat) (hg : B ≤ g) : ∀ (us : List Value) (o : Nat) (W : World),Below B w W → Below B w (W.setCells g o us)
 | [],_,W,h => h
 | u :: us,o,W,h => by
  rw [World.setCells]
  exact uT g hg us (o + 1) _ (h.setCell hg _)
theorem Fe (g : Nat) {t : TypeId} : ∀ (us pre suf : List Value) (W : World),W.heap[g]? = some (.cells (pre ++ suf).toArray t (0,0)) → us.length = suf.length → (W.setCells g pre.length us).heap[g]? = some (.cells (pre ++ us).toArray t (0,0))
 | [],pre,suf,W,h,hl => by
  obtain rfl : suf = []:=List.length_eq_zero_iff.1 (by simpa using hl.symm)
  exact h
 | u :: us,pre,suf,W,h,hl => by
  obtain ⟨s,suf,rfl⟩ : ∃ s r,suf = s :: r:=by cases suf with | nil => simp at hl | cons s r => exact ⟨s,r,rfl⟩
  rw [World.setCells]
  have h1:=Eh h pre.length u
  have e : (pre ++ s :: suf).toArray.setIfInBounds pre.length u = ((pre ++ [u]) ++ suf).toArray:=by simp
  rw [e] at h1
  have:=Fe g us (pre ++ [u]) suf _ h1 (by simpa using hl)
  simpa using this
theorem Mem.cells (M : Mem es w0 W l rows) (i : Nat) {g : Nat} {cs : Array Value} {t : TypeId} (h : l[i]? = some (g,cs,t)) (us : Array Value) (hl : us.size = cs.size) : Mem es w0 (W.setCells g 0 us.toList) (l.set i (g,us,t)) rows:=by
 refine M.keep i h ?_ (DC g us.toList 0 W) (uT g (M.ge i h) us.toList 0 W M.below)
 have:=Fe g (t:=t) us.toList [] cs.toList W (by simpa using M.at i h) (by simpa using hl)
 simpa using this
theorem Mem.written (M : Mem es w0 W l (⟨d,e,v,xs⟩ :: rows)) (hb : Below w0.heap.size w0 W1) (hg : W.grownBy W1 v.ownBlock) {v1 : Value} {ys : List α}
  (h : d.R e W1 w0.heap.size (PE (⟨d,e,v,xs⟩ :: rows) 0) v1 ys) (hat : v1.ownBlock = v.ownBlock ∨ ∃ b,v1.ownBlock = some b ∧ W.heap.size ≤ b) : Mem es w0 W1 l (⟨d,e,v1,ys⟩ :: rows):=by
 refine ⟨hb,fun x hx => ?_,M.apart,fun r hr => ?_,fun i r hr => ?_⟩
 ·have hx':=M.blk x hx
  refine ⟨FQ hx'.1 hg (fun he => ?_),hx'.2⟩
  obtain ⟨cells,hc⟩:=Kd.Sm (M.owns 0 _ rfl) x.1 he.symm
  have h2:=hx'.1.symm.trans hc
  injection h2 with h2
  injection h2 with _ h3 _
  exact hx'.2.2 (by rw [h3]; exact M.typ _ List.mem_cons_self _ List.mem_cons_self)
 ·rcases List.mem_cons.1 hr with rfl | hr
  ·exact M.typ ⟨d,e,v,xs⟩ List.mem_cons_self
  ·exact M.typ r (List.mem_cons_of_mem _ hr)
 ·cases i with
  | zero =>
   obtain rfl : _ = r:=by simpa using hr
   refine Kd.sJ h (fun k hk j s hs hj => ?_)
   obtain ⟨j,rfl⟩ : ∃ m,j = m + 1:=⟨j - 1,by omega⟩
   exact hk (j + 1) s (by simpa using hs) (by omega)
  | succ i =>
   have hr' : (⟨d,e,v,xs⟩ :: rows)[i + 1]? = some r:=by simpa using hr
   have h0:=M.owns (i + 1) r hr'
   refine Kd.sJ (Kd.Sj (Kd.Bc h0) hg (fun k hk => hk.1 0 _ rfl (by omega))) (fun k hk j s hs hj => ?_)
   cases j with
   | zero =>
    obtain rfl : _ = s:=by simpa using hs
    rcases hat with he | ⟨b,he,hbb⟩
    ·show some k ≠ v1.ownBlock
     rw [he]
     exact hk.1 0 _ rfl (by omega)
    ·show some k ≠ v1.ownBlock
     rw [he]
     intro hkb
     injection hkb with hkb
     have:=hk.2.2.1
     omega
   | succ j => exact hk.1 (j + 1) s (by simpa using hs) (by omega)
theorem Mem.Ns (M : Mem es w0 W l rows) (i k : Nat) (hk : W.heap.size ≤ k) : PE rows i k:=fun j s hs hj he => by
 have:=Kd.aeI (M.owns j s hs) k he.symm
 omega
theorem aa2 (r : Row) (k : Nat) : PE [r] 0 k:=fun j s hs hj => by
 cases j with
 | zero => exact absurd rfl hj
 | succ j => simp at hs
theorem Mem.append (M : Mem es w0 W l [⟨d,e,v,xs⟩]) (hb : Below w0.heap.size w0 W1) (hg : W.grownBy W1 v.ownBlock) {v1 : Value} {ys : List α} (h : d.R e W1 w0.heap.size (fun _ => True) v1 ys)
  (hat : v1.ownBlock = v.ownBlock ∨ ∃ b,v1.ownBlock = some b ∧ W.heap.size ≤ b) : Mem es w0 W1 l [⟨d,e,v1,ys⟩] :=
 M.written hb hg (Kd.sJ h (fun k _ => aa2 _ k)) hat
theorem Mem.ac9 (M : Mem es w0 W l [⟨d,e,v,xs⟩]) {v1 : Value} {ys : List α} (h : d.R e W w0.heap.size (fun _ => True) v1 ys) : Mem es w0 W l [⟨d,e,v1,ys⟩] :=
 ⟨M.below,M.blk,M.apart,fun r hr => by rw [List.mem_singleton] at hr; subst hr; exact M.typ ⟨d,e,v,xs⟩ List.mem_cons_self,fun i r hr => by
  cases i with
  | zero =>
   obtain rfl : _ = r:=by simpa using hr
   exact Kd.sJ h (fun k _ => aa2 _ k)
  | succ i => simp at hr⟩
theorem Mem.tail {r : Row} (M : Mem es w0 W l (r :: rows)) : Mem es w0 W l rows :=
 ⟨M.below,M.blk,M.apart,fun s hs => M.typ s (List.mem_cons_of_mem _ hs),fun i s hs => Kd.sJ (M.owns (i + 1) s (by simpa using hs)) (fun k hk j s' hs' hj => hk (j + 1) s' (by simpa using hs') (by omega))⟩
theorem Mem.none (M : Mem es w0 W l rows) : Mem es w0 W l []:=⟨M.below,M.blk,M.apart,(fun r hr => by cases hr),(fun i r hr => by simp at hr)⟩
theorem Mem.drawn (M : Mem es w0 W l rows) (h : aV W W1) : Mem es w0 W1 l rows:=by
 obtain ⟨n,rfl⟩:=h
 exact M.drewN n
theorem Mem.drew (M : Mem es w0 W l rows) : Mem es w0 W.drew l rows :=
 ⟨M.below.drew,fun x hx => ⟨aQ (M.blk x hx).1,(M.blk x hx).2⟩,M.apart,M.typ,fun i r hr => Kd.wL (M.owns i r hr)⟩
end Go.Proofs.YtdbpglhdicmhhaaGreatDoor.iM
end

section
namespace Go.Proofs.YtdbpglhdicmhhaaGreatDoorW.aI
open Go.RowKit
section
variable {P : Program} {ops : Array Oper} {rest : List Oper} {o : Oper} {a : Act} {Q : Exit → Act → World → Prop} {W : World}
theorem tV (hw : Region.wanted o (yielded ops a.tmps) = true) (h : wpList P ops Q ({ o with guard:=none } :: rest) a W) : wpList P ops Q (o :: rest) a W:=by
 have h1 : Region.wanted { o with guard:=none } (yielded ops a.tmps) = true:=rfl
 unfold wpList at h ⊢
 rw [if_pos h1] at h
 rw [if_pos hw]
 exact h
end
end Go.Proofs.YtdbpglhdicmhhaaGreatDoorW.aI
end
