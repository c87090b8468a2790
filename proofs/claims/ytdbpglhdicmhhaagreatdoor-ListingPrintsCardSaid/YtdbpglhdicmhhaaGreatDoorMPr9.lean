import Derived.Test.YtdbpglhdicmhhaaGreatDoorMPr7
import Derived.Test.YtdbpglhdicmhhaaGreatDoorMPr8
import Derived.Handy
import Derived.StillTailTactics
set_option maxHeartbeats 4000000
set_option maxRecDepth 100000
set_option linter.unusedVariables false
set_option linter.unusedSimpArgs false
section
namespace Go.Proofs.YtdbpglhdicmhhaaGreatDoor.iM
open Go.RowKit Go.Proofs.YtdbpglhdicmhhaaGreatDoorW.aI Go.Proofs.YtdbpglhdicmhhaaGreatDoorW.aX Go.Proofs.YtdbpglhdicmhhaaGreatDoorW.aZ
section
variable {P : Program} {ops : Array Oper} {md : Region.Mode} {o : Oper} {a : Act} {Q : Exit → Act → World → Prop} {e : List TypeId} {w0 w W : World} {l L : List (Nat × Array Value × TypeId)} {T : List (Addr × Value)} {rows : List Row} {fx : List (Nat × Obj)} {fuel : Nat} {listed : Array Bool} {ds : List Nat}
theorem V6 {id : Nat} (ds : List Nat) (T : List (Addr × Value)) (M : ah (bf e w0 W l fx rows))
  (h : ∀ W',ah (bf e w0 W' l fx rows) → bJ P .any ops (NoPanic Q) (Held l T) ds ops.size (Array.replicate ops.size false) a W')
  (hm : P.follows .mixedOrders = true:=by kernel_rfl) (hT : Cells w0 T:=by first | exact Cells.nil _ | assumption) : (Code.region id ops true).wp P Q a W:=by
 refine wp_region_noPanic ?_
 exact sQ hm ((bf.drew M.out).mem.held hT (List.take_of_length_le (Nat.le_refl _))) (fun _ => h _ ⟨bf.drew M.out⟩)
theorem fBs (M : ah (bf e w0 w l fx rows)) (i : Nat) (N : Tmp) (cs : List Value) (t : TypeId) {rs : List Nat}
  (h : bJ P md ops Q (Held L T) ds fuel (listed.setIfInBounds i true) (a.put (some N) (.slice (some ⟨w.heap.size,0,none⟩) 1 1)) (w.alloc (.cells cs.toArray t)))
  (hrest : aK P md ops Q (Held L T) ds fuel listed a w rs)
  (hoi : ops[i]? = some o:=by rfl) (hN : o.dst = some N:=by rfl) (hw : Region.wanted o (yielded ops a.tmps) = true:=by rfl) (hd : i ∉ ds:=by decide)
  (hrun : (execOp a.eval o).run P w = .ok (.value (.slice (some ⟨w.heap.size,0,none⟩) 1 1)) (w.alloc (.cells cs.toArray t)):=by first | (go_simp; done) | (go_simp; rfl))
  (hl : l.take L.length = L:=by first | exact List.take_length | rfl) (hT : Cells w0 T:=by first | exact Cells.nil _ | assumption) : aK P md ops Q (Held L T) ds fuel listed a w (i :: rs):=by
 refine aK.cons hoi hd (fun K hK => ?_) hrest
 rw [if_pos hw]
 unfold Oper.wp
 rw [hrun]
 show K (a.put o.dst _) _
 rw [hN]
 exact hK.out _ _ ((M.out.call (ak (Below.refl _ _) _)).mem.held hT hl) (fun _ => h)
theorem fAp {α : Type} {d : Kd α} {te : TypeId} {v : Value} {xs : List α} (M : ah (bf e w0 w l fx (⟨d,te,v,xs⟩ :: rows))) (i : Nat) (N : Tmp) (p : α) (cs : List Value) (z : Value) (bytes : Nat) {rs : List Nat} (acN : (xs.length + 1) * bytes ≤ 140737488355328)
  (h : ∀ v' w1,ah (bf e w0 w1 l fx (⟨d,te,v',xs ++ [p]⟩ :: rows)) → bJ P md ops Q (Held L T) ds fuel (listed.setIfInBounds i true) (a.put (some N) v') w1)
  (hp : d.M w w0.heap.size (fun _ => False) p cs) (hz : z.cells.size = d.sz) (hs0 : 0 < d.sz)
  (hrest : aK P md ops Q (Held L T) ds fuel listed a (w.alloc (.cells cs.toArray te)) rs)
  {s x : Operand} {t : TypeId} (hoi : ops[i]? = some o:=by rfl) (hN : o.dst = some N:=by rfl) (ho : o.op = .call { callee:=.builtin .append,args:=#[s,x],argTypes:=#[t,t] }:=by rfl) (hw : Region.wanted o (yielded ops a.tmps) = true:=by rfl) (hd : i ∉ ds:=by decide)
  (ht : P.underlying t = some (.slice te):=by kernel_rfl) (hinfo : (P.info? te).map (fun i => (i.zero,i.size,i.bytes)) = some (some z,d.sz,bytes):=by kernel_rfl)
  (hb0 : 0 < bytes:=by decide) (hs : a.eval s = v:=by rfl) (hx : a.eval x = .slice (some ⟨w.heap.size,0,none⟩) 1 1:=by rfl) (hl : l.take L.length = L:=by first | exact List.take_length | rfl) (hT : Cells w0 T:=by first | exact Cells.nil _ | assumption) : aK P md ops Q (Held L T) ds fuel listed a (w.alloc (.cells cs.toArray te)) (i :: rs):=by
 have M0:=M.out.mem
 refine aK.cons hoi hd (fun K hK => ?_) hrest
 refine Kd.Du d (w0:=w0) w0.heap.size hw s x t te z bytes ho ht hinfo hz hs0 hb0 v xs p cs (PE (⟨d,te,v,xs⟩ :: rows) 0) (fun _ => False) hs hx hp (fun _ hk => hk.elim)
  (fun k hk => M0.Ns 0 k hk) (M0.owns 0 _ rfl) M0.below M0.below.size acN (fun v1 w1 hR hB hg hat => ?_)
 have M1:=M.out.other (M0.written hB hg hR hat) (fun q y hy => hg.block y.1 (jk (M.out.fix q y hy).1) (M.out.F5 0 q rfl hy))
 rw [hN]
 exact hK.out _ _ (M1.mem.held hT hl) (fun _ => h v1 w1 ⟨M1⟩)
theorem OH {t : TypeId} {p : Tmp} {v : Operand} (ho : o.op = .store t (.tmp p) v) (g j : Nat) {tb : TypeId} (cs : Array Value) (u : Value)
  (hp : a.eval (.tmp p) = .pointer (some ⟨g,j,none⟩)) (hv : a.eval v = u) (hb : w.heap[g]? = some (.cells cs tb (0,0))) (hj : (cs[j]?).isSome = true) (hi : (P.info? t).map (·.size) = some 1) (h1 : u.oneCell' = true) :
  (execOp a.eval o).run P w = .ok .skip (w.setCell ⟨g,j,none⟩ u):=by
 obtain ⟨z,hz⟩:=Option.isSome_iff_exists.1 hj
 have hc : w.cell? ⟨g,j,none⟩ = some z:=(aA hb j).trans hz
 have hf : w.frozen? ⟨g,j,none⟩ = false:=au hb j
 have hs : (store (⟨g,j,none⟩ : Addr) u).run P w = .ok () (w.setCell ⟨g,j,none⟩ u):=by
  rw [run_store P w _ u _ h1,hc]
  simp [hf]
 have hcells : u.cells = #[u]:=by cases u <;> first | rfl | simp [Value.oneCell'] at h1
 have hsv : (storeVar t ⟨g,j,none⟩ u).run P w = .ok () (w.setCell ⟨g,j,none⟩ u):=by
  cases hq : P.info? t with
  | none => simp [hq] at hi
  | some i =>
   have hz : i.size = 1:=by simpa [hq] using hi
   have ha : (⟨g,j,none⟩ : Addr).add 0 = ⟨g,j,none⟩:=by unfold Addr.add; simp
   have hs' : (store ((⟨g,j,none⟩ : Addr).add 0) u).run P w = .ok () (w.setCell ⟨g,j,none⟩ u):=by rw [ha]; exact hs
   simp [storeVar,sizeOf,typeInfo,hq,hcells,hz,storeCells,hs']
 unfold execOp
 simp only [ho,hp,hv,Instr.storeAt,Instr.sureAddr,Sem.run_bind,Sem.run_pure,Result.andThen_ok,hsv]
theorem fC (M : ah (bf e w0 w l fx rows)) (i : Nat) (t : TypeId) (p : Tmp) (k j : Nat) (u : Value) (new : Array Value) {g : Nat} {cs : Array Value} {tb : TypeId} {x : Operand} {rs : List Nat}
  (h : ∀ w',ah (bf e w0 w' (l.set k (g,new,tb)) fx rows) → bJ P md ops Q (Held L T) ds fuel (listed.setIfInBounds i true) a w')
  (hk : l[k]? = some (g,cs,tb)) (hj : (cs[j]?).isSome = true) (h1 : u.oneCell' = true) (hnew : cs.setIfInBounds j u = new)
  (hrest : aK P md ops Q (Held L T) ds fuel listed a w rs)
  (hoi : ops[i]? = some o:=by rfl) (hn : o.dst = none:=by rfl) (hw : Region.wanted o (yielded ops a.tmps) = true:=by rfl) (hd : i ∈ ds:=by decide) (ho : o.op = .store t (.tmp p) x:=by rfl)
  (hx : a.eval (.tmp p) = .pointer (some ⟨g,j,none⟩):=by rfl) (hv : a.eval x = u:=by rfl) (hs : (P.info? t).map (·.size) = some 1:=by kernel_rfl) : aK P md ops Q (Held L T) ds fuel listed a w (i :: rs):=by
 refine aK.xB hoi hd (fun K hK => ?_) hrest
 rw [if_pos hw]
 unfold Oper.wp
 rw [OH ho g j cs u hx hv (M.out.mem.at k hk) hj hs h1]
 show K (a.put o.dst undef) _
 rw [hn]
 have M1:=M.out.mem.set k hk j u
 rw [hnew] at M1
 have hkb:=((eu.refl w g none).set_ j u)
 exact hK.out _ _ (h _ ⟨M.out.other M1 (fun q y hy => hkb.2 y.1 (jk (M.out.fix q y hy).1) (M.out.FZ k q hk hy) (by simp))⟩)
end
section
variable {es : List TypeId} {w0 W : World} {l : List (Nat × Array Value × TypeId)} {fx : List (Nat × Obj)} {rows : List Row}
theorem Mem.front (M : Mem es w0 W l rows) (i : Nat) {r : Row} (h : rows[i]? = some r) : Mem es w0 W l (r :: rows.eraseIdx i):=by
 have hi : i < rows.length:=(List.getElem?_eq_some_iff.1 h).1
 refine M.fQ (fun k => match k with | 0 => i | k + 1 => if k < i then k else k + 1) (fun k => if k = i then 0 else if k < i then k + 1 else k) (fun k => ?_) (fun a b ha hb hab => ?_) (fun k hk => ?_)
 ·cases k with
  | zero => exact h.symm
  | succ k =>
   rw [List.getElem?_cons_succ,List.getElem?_eraseIdx]
   show _ = rows[if k < i then k else k + 1]?
   split <;> rfl
 ·cases a with
  | zero =>
   cases b with
   | zero => rfl
   | succ b =>
    dsimp only at hab
    split at hab <;> omega
  | succ a =>
   cases b with
   | zero =>
    dsimp only at hab
    split at hab <;> omega
   | succ b =>
    dsimp only at hab
    split at hab <;> split at hab <;> omega
 ·try dsimp only
  by_cases h1 : k = i
  ·rw [if_pos h1]; exact h1.symm
  ·rw [if_neg h1]
   by_cases h2 : k < i
   ·rw [if_pos h2]; show (if k < i then k else k + 1) = k; rw [if_pos h2]
   ·rw [if_neg h2]
    obtain ⟨m,rfl⟩ : ∃ m,k = m + 1:=⟨k - 1,by omega⟩
    show (if m < i then m else m + 1) = m + 1
    rw [if_neg (by omega)]
theorem Mem.back {r : Row} (i : Nat) (hi : i < rows.length) (M : Mem es w0 W l (r :: rows.eraseIdx i)) : Mem es w0 W l (rows.set i r):=by
 refine M.fQ (fun k => if k = i then 0 else if k < i then k + 1 else k) (fun k => match k with | 0 => i | k + 1 => if k < i then k else k + 1) (fun k => ?_) (fun a b ha hb hab => ?_) (fun k hk => ?_)
 ·rw [List.getElem?_set]
  by_cases h1 : i = k
  ·subst h1
   rw [if_pos rfl,if_pos hi]
   show _ = (r :: rows.eraseIdx i)[if i = i then 0 else _]?
   rw [if_pos rfl]; rfl
  ·rw [if_neg h1]
   show rows[k]? = (r :: rows.eraseIdx i)[if k = i then 0 else if k < i then k + 1 else k]?
   rw [if_neg (Ne.symm h1)]
   by_cases h2 : k < i
   ·rw [if_pos h2,List.getElem?_cons_succ,List.getElem?_eraseIdx,if_pos h2]
   ·rw [if_neg h2]
    obtain ⟨j,rfl⟩ : ∃ j,k = j + 1:=⟨k - 1,by omega⟩
    rw [List.getElem?_cons_succ,List.getElem?_eraseIdx,if_neg (by omega)]
 ·try dsimp only at hab
  split at hab <;> split at hab <;> (try split at hab) <;> (try split at hab) <;> omega
 ·cases k with
  | zero => show (if i = i then 0 else _) = 0; rw [if_pos rfl]
  | succ k =>
   show (if (if k < i then k else k + 1) = i then 0 else if (if k < i then k else k + 1) < i then (if k < i then k else k + 1) + 1 else (if k < i then k else k + 1)) = k + 1
   by_cases h2 : k < i
   ·simp only [if_pos h2]; rw [if_neg (by omega)]
   ·simp only [if_neg h2]; rw [if_neg (by omega),if_neg (by omega)]
theorem bf.front (M : bf es w0 W l fx rows) (i : Nat) {r : Row} (h : rows[i]? = some r) : bf es w0 W l fx (r :: rows.eraseIdx i):=M.fQ (fun m => m.front i h)
theorem bf.back {r : Row} (i : Nat) (hi : i < rows.length) (M : bf es w0 W l fx (r :: rows.eraseIdx i)) : bf es w0 W l fx (rows.set i r):=M.fQ (fun m => Mem.back i hi m)
end
end Go.Proofs.YtdbpglhdicmhhaaGreatDoor.iM
end

section
namespace Go.Proofs.YtdbpglhdicmhhaaGreatDoor.qp
open Go.RowKit Go.Shelf Go.Proofs.YtdbpglhdicmhhaaGreatDoorW.aI Go.Proofs.YtdbpglhdicmhhaaGreatDoorW.aX Go.Proofs.YtdbpglhdicmhhaaGreatDoorW.aZ iM
structure St where
 (code : List Int) (funcs : List (List Int)) (tabs : List (Bool × List (Bool × List Int))) (ins : List (List Int)) (opn : List Int) (uses : List (List Int × ByteArray))
 (cases idle : Bool) (wrong line now : Int)
 (fm tm : ByteArray → Option Int) (lm : Int × ByteArray → Option Int)
structure Hd where
 (vc vf vt vi vo vu : Value) (gf gt gl : Nat) (of ot ol : Obj) (vs : List Value)
@[reducible] def ints (l : List Int) : List Value:=l.map (Value.int .i64)
@[reducible] def zH (u : List Int × ByteArray) : List Value:=ints u.1 ++ [.string u.2]
@[reducible] def rD (c : Bool × List Int) : List Value:=.bool c.1 :: ints c.2
@[reducible] def fF (vs : List Value) (tabs : List (Bool × List (Bool × List Int))) : List (List Value):=List.zipWith (fun v t => [v,.bool t.1]) vs tabs
@[reducible] def iE (vs : List Value) (tabs : List (Bool × List (Bool × List Int))) : List Row:=List.zipWith (fun v t => ⟨Kd.raw 4,46,v,t.2.map rD⟩) vs tabs
@[reducible] def ac0 (p : Int × ByteArray) : Value:=.agg #[.int .i64 p.1,.string p.2]
@[reducible] def dO (h : Hd) (s : St) : List Row :=
 ⟨Kd.int .u32,39,h.vc,s.code⟩ :: ⟨Kd.raw 2,41,h.vf,s.funcs.map ints⟩ :: ⟨Kd.raw 2,44,h.vt,fF h.vs s.tabs⟩ :: ⟨Kd.raw 5,70,h.vi,s.ins.map ints⟩ :: ⟨Kd.int .i64,3,h.vo,s.opn⟩ :: ⟨Kd.raw 5,111,h.vu,s.uses.map zH⟩ :: iE h.vs s.tabs
@[reducible] def gZ (h : Hd) (s : St) : Array Value:=dN h.vc h.vf h.vt h.vi h.gf h.gt h.gl h.vo s.cases s.idle h.vu s.wrong s.line s.now
@[reducible] def vk : List TypeId:=[39,41,44,70,3,111,46]
@[reducible] def Ea (h : Hd) : List (Nat × Obj):=[(h.gf,h.of),(h.gt,h.ot),(h.gl,h.ol)]
structure vO (k : Nat) (s : St) : Prop where
 code : s.code.length ≤ k
 funcs : s.funcs.length ≤ k
 tabs : s.tabs.length ≤ k
 ins : s.ins.length ≤ k
 opn : s.opn.length ≤ k
 uses : s.uses.length ≤ k
 cs : ∀ t ∈ s.tabs,t.2.length ≤ k
theorem vO.mono {k k' : Nat} {s : St} (h : vO k s) (hk : k ≤ k') : vO k' s :=
 ⟨Nat.le_trans h.code hk,Nat.le_trans h.funcs hk,Nat.le_trans h.tabs hk,Nat.le_trans h.ins hk,Nat.le_trans h.opn hk,Nat.le_trans h.uses hk,fun t ht => Nat.le_trans (h.cs t ht) hk⟩
theorem vO.like {k : Nat} {s s' : St} (h : vO k s) (h1 : s'.code = s.code:=by rfl) (h2 : s'.funcs = s.funcs:=by rfl) (h3 : s'.tabs = s.tabs:=by rfl) (h4 : s'.ins = s.ins:=by rfl) (h5 : s'.opn = s.opn:=by rfl) (h6 : s'.uses = s.uses:=by rfl) : vO k s' :=
 ⟨h1 ▸ h.code,h2 ▸ h.funcs,h3 ▸ h.tabs,h4 ▸ h.ins,h5 ▸ h.opn,h6 ▸ h.uses,h3 ▸ h.cs⟩
structure Says (k : Nat) (h : Hd) (s : St) : Prop where
 f : uf Tryz.prog 9 k h.of Value.string s.fm
 t : uf Tryz.prog 9 k h.ot Value.string s.tm
 l : uf Tryz.prog 113 k h.ol ac0 s.lm
theorem Says.mono {k k' : Nat} {h : Hd} {s : St} (hs : Says k h s) (hk : k ≤ k') : Says k' h s:=⟨hs.f.mono hk,hs.t.mono hk,hs.l.mono hk⟩
@[reducible] def Ee (w0 W : World) (gr : Nat) (l : List (Nat × Array Value × TypeId)) (h : Hd) (s : St) : Prop:=bf vk w0 W ((gr,gZ h s,55) :: l) (Ea h) (dO h s)
structure dX (k : Nat) (w0 W : World) (gr : Nat) (l : List (Nat × Array Value × TypeId)) (h : Hd) (s : St) : Prop where
 mem : Ee w0 W gr l h s
 few : vO k s
 says : Says k h s
 len : h.vs.length = s.tabs.length
def St.bad (s : St) (e ln : Int) : St:={ s with wrong:=(DN s.wrong s.line e ln).1,line:=(DN s.wrong s.line e ln).2 }
def St.closed (s : St) : St:={ s with wrong:=(vP (s.wrong,s.line) s.opn).1,line:=(vP (s.wrong,s.line) s.opn).2,opn:=[] }
section
variable {k : Nat} {w0 W : World} {gr : Nat} {l : List (Nat × Array Value × TypeId)} {h : Hd} {s : St}
theorem dX.below (M : dX k w0 W gr l h s) : Below w0.heap.size w0 W:=M.mem.mem.below
theorem dX.call (M : dX k w0 W gr l h s) {W1 : World} (hb : Below W.heap.size W W1) : dX k w0 W1 gr l h s:=⟨M.mem.call hb,M.few,M.says,M.len⟩
theorem dX.to (M : dX k w0 W gr l h s) {W1 : World} {h' : Hd} {s' : St} (M1 : Ee w0 W1 gr l h' s') (hf : vO k s') (hs : Says k h' s') (hl : h'.vs.length = s'.tabs.length) : dX k w0 W1 gr l h' s':=⟨M1,hf,hs,hl⟩
theorem tq (M : dX k w0 W gr l h s) (S : Std w0) (e ln : Int) : Calls Tryz.prog 58 #[.pointer (some ⟨gr,0,none⟩),.int .i64 e,.int .i64 ln] W fun z w' => z = .returned (.tuple #[]) ∧ dX k w0 w' gr l h (s.bad e ln) :=
 (J5 M.mem (S.below M.below) e ln).mono fun z w' ⟨hz,hm⟩ => ⟨hz,hm,⟨M.few.code,M.few.funcs,M.few.tabs,M.few.ins,M.few.opn,M.few.uses,M.few.cs⟩,⟨M.says.f,M.says.t,M.says.l⟩,M.len⟩
theorem CW (M : dX k w0 W gr l h s) (S : Std w0) (hk : k ≤ 262144) : Calls Tryz.prog 25 #[.pointer (some ⟨gr,0,none⟩)] W fun z w' => z = .returned (.tuple #[]) ∧ dX k w0 w' gr l { h with vo:=.slice none 0 0 } s.closed :=
 (La M.mem S 4 rfl (Nat.le_trans M.few.opn hk)).mono fun z w' ⟨hz,hm⟩ => ⟨hz,hm,⟨M.few.code,M.few.funcs,M.few.tabs,M.few.ins,Nat.zero_le _,M.few.uses,M.few.cs⟩,⟨M.says.f,M.says.t,M.says.l⟩,M.len⟩
end
theorem Jj {w : World} {b : Nat} {ok : Nat → Prop} (l : List Int) : (Kd.raw l.length).M w b ok (ints l) (ints l):=⟨rfl,by simp [ints],fun u hu => by obtain ⟨x,_,rfl⟩:=List.mem_map.1 hu; rfl⟩
theorem Bz {s : ByteArray} (hs : s.size ≤ maxLen) : keyOf Tryz.prog 9 (.string s) = some (.string s.data.toList):=WideMaps.keyOf_string_mk Tryz.underlying9 hs
theorem Ru : ∀ x y : ByteArray,Value.string x = Value.string y → x = y:=fun x y h => by injection h
theorem NU : Maps.Keyed Tryz.prog 9:=Maps.string_keyed Tryz.underlying9
theorem zero3 (w : World) : (zeroValue 3).run Tryz.prog w = .ok (.int .i64 0) w:=by kernel_rfl
end Go.Proofs.YtdbpglhdicmhhaaGreatDoor.qp
end

section
namespace Go.Proofs.YtdbpglhdicmhhaaGreatDoor.qp
open Go.RowKit Go.Shelf Go.Proofs.YtdbpglhdicmhhaaGreatDoorW.aI Go.Proofs.YtdbpglhdicmhhaaGreatDoorW.aX Go.Proofs.YtdbpglhdicmhhaaGreatDoorW.aZ iM
open Go.Proofs.YtdbpglhdicmhhaaGreatDoor.GA
def St.fn0 (s : St) : St:={ s.closed with idle:=false,funcs:=s.funcs ++ [[(s.ins.length : Int),(s.ins.length : Int)]] }
def St.fn (s : St) (ws : List ByteArray) : St:=match ws with
 | [_,n] => if Q.nameB n.data.toList then (if (s.fm n).isSome then s.fn0.bad 72 s.now else { s.fn0 with fm:=fun y => if y = n then some (s.funcs.length : Int) else s.fm y }) else s.fn0.bad 70 s.now
 | _ => s.fn0.bad 70 s.now
structure Line (l : List (Nat × Array Value × TypeId)) (gw n c : Nat) (ws : List ByteArray) : Prop where
 box : ∃ (i : Nat) (cur : Array Value),l[i]? = some (gw,cur,9) ∧ ∀ (j : Nat) p,ws[j]? = some p → cur[j]? = some (.string p)
 len : ws.length = n
 cap : n ≤ c
 few : n ≤ 262144
 small : ∀ p ∈ ws,p.size ≤ 262144
theorem dX.word {k : Nat} {w0 W : World} {gr : Nat} {l : List (Nat × Array Value × TypeId)} {h : Hd} {s : St} (M : dX k w0 W gr l h s) {gw n c : Nat} {ws : List ByteArray} (L : Line l gw n c ws) {j : Nat} {p : ByteArray} (hj : ws[j]? = some p) : W.cell? ⟨gw,j,none⟩ = some (.string p):=by
 obtain ⟨i,cur,hi,hc⟩:=L.box
 exact (M.mem.mem.cell (i + 1) (by simpa using hi) j).trans (hc j p hj)
theorem KO {ws : List ByteArray} (h : ws.length = 2) : ∃ a b,ws = [a,b]:=by
 match ws,h with
 | [a,b],_ => exact ⟨a,b,rfl⟩
theorem YW (s : St) (ws : List ByteArray) (h : ws.length ≠ 2) : s.fn ws = s.fn0.bad 70 s.now:=by
 unfold St.fn
 split
 ·exact absurd rfl h
 ·rfl
theorem YV (s : St) (a n : ByteArray) (h : Q.nameB n.data.toList = false) : s.fn [a,n] = s.fn0.bad 70 s.now:=by
 show (if Q.nameB n.data.toList then _ else _) = _
 rw [h]; rfl
theorem V9 (s : St) (a n : ByteArray) (h : Q.nameB n.data.toList = true) (h2 : (s.fm n).isSome = true) : s.fn [a,n] = s.fn0.bad 72 s.now:=by
 show (if Q.nameB n.data.toList then (if (s.fm n).isSome then _ else _) else _) = _
 rw [h,h2]; rfl
theorem ab8 (s : St) (a n : ByteArray) (h : Q.nameB n.data.toList = true) (h2 : (s.fm n).isSome = false) : s.fn [a,n] = { s.fn0 with fm:=fun y => if y = n then some (s.funcs.length : Int) else s.fm y }:=by
 show (if Q.nameB n.data.toList then (if (s.fm n).isSome then _ else _) else _) = _
 rw [h,h2]; rfl
theorem vO.fn {k : Nat} {s : St} (h : vO k s) : vO (k + 1) s.fn0:=by
 have:=h.funcs
 exact ⟨Nat.le_succ_of_le h.code,by show (s.funcs ++ _).length ≤ _; simp; omega,Nat.le_succ_of_le h.tabs,Nat.le_succ_of_le h.ins,Nat.zero_le _,Nat.le_succ_of_le h.uses,fun t ht => Nat.le_succ_of_le (h.cs t ht)⟩
theorem wf64 {n : Nat} (h : n ≤ 262144) : (Lit.int .i64 (n : Int)).wf = true:=by
 unfold Lit.wf
 rw [Bool.and_eq_true,show IntKind.i64.min = -9223372036854775808 by decide,show IntKind.i64.max = 9223372036854775807 by decide]
 exact ⟨decide_eq_true (by omega),decide_eq_true (by omega)⟩
section
variable {k : Nat} {w0 W : World} {gr : Nat} {l : List (Nat × Array Value × TypeId)} {h : Hd} {s : St} {gw n c : Nat} {ws : List ByteArray}
theorem OU (M0 : dX k w0 W gr l h s) (S : Std w0) (hk : k < 262144) (L : Line l gw n c ws) :
  Calls Tryz.prog 56 #[.pointer (some ⟨gr,0,none⟩),.slice (some ⟨gw,0,none⟩) n c] W fun z w' => z = .returned (.tuple #[]) ∧ ∃ h',dX (k + 1) w0 w' gr l h' (s.fn ws):=by
 have SS:=Lib.hid S
 have HK:=Lib.hid hk
 have HL:=Lib.hid L
 have Oa:=Lib.hid (CW M0 S (by omega))
 obtain ⟨vc,vf,vt,vi,vo,vu,gf,gt,gl,of,ot,ol,vs⟩:=h
 obtain ⟨A1,c1,rfl⟩ : ∃ A c,vf = .slice A s.funcs.length c:=by
  have h1:=Kd.iy (M0.mem.mem.owns 1 _ rfl)
  obtain ⟨A,c,he⟩:=h1
  exact ⟨A,c,by rw [show s.funcs.length = (s.funcs.map ints).length by simp]; exact he⟩
 obtain ⟨A3,c3,rfl⟩ : ∃ A c,vi = .slice A s.ins.length c:=by
  have h1:=Kd.iy (M0.mem.mem.owns 3 _ rfl)
  obtain ⟨A,c,he⟩:=h1
  exact ⟨A,c,by rw [show s.ins.length = (s.ins.map ints).length by simp]; exact he⟩
 have BN:=Lib.hid (show (((s.funcs.map ints).length + 1) * 16 ≤ 140737488355328) by have:=M0.few.funcs; simp; omega)
 have Ae:=Lib.hid M0.few
 have qP:=Lib.hid M0.says
 have HLEN:=Lib.hid M0.len
 clear M0 S hk L
 go_enter Tryz.func56,Tryz.ntmps56
 go_wp2_with fail
 refine Oa.out.mono ?_
 rintro e w1 ⟨rfl,M⟩
 have M1:=ah.mk M
 clear M
 go_wp2_with (first
  | ((with_reducible refine aU (t:=4) (p:=11) rfl ?_); refine fS (ah.mk M1.out.mem) 4 (.tmp 11) 0 9 (.bool false) (dN vc (.slice A1 s.funcs.length c1) vt (.slice A3 s.ins.length c3) gf gt gl (.slice none 0 0) s.cases false vu s.closed.wrong s.closed.line s.now) ?_ rfl rfl rfl rfl; clear M1; intro W2 M2; have x1:=bY M2.out 1 rfl))
 have M3:=ah.mk (show Ee w0 W2 gr l ⟨vc,.slice A1 s.funcs.length c1,vt,.slice A3 s.ins.length c3,.slice none 0 0,vu,gf,gt,gl,of,ot,ol,vs⟩ { s.closed with idle:=false } from M2.out)
 clear M2 x1
 refine V6 [22] [] M3 (fun w' MD => ?_)
 clear M3
 refine dP 0 18 (.pointer (some ⟨gr,0,none⟩)) ?_
 simp only [Act.put,bF,bH,bG]
 refine dP 1 19 (.pointer (some ⟨gr,0,none⟩)) ?_
 simp only [Act.put,bF,bH,bG]
 refine dP 2 20 (.pointer (some ⟨gr,0,none⟩)) ?_
 simp only [Act.put,bF,bH,bG]
 refine dP 3 21 (.pointer (some ⟨gr,0,none⟩)) ?_
 simp only [Act.put,bF,bH,bG]
 refine dP 4 22 (.pointer (some ⟨gr,1,none⟩)) ?_
 simp only [Act.put,bF,bH,bG]
 refine dC (ah.mk MD.out.mem) 5 23 0 1 (.slice A1 s.funcs.length c1) (hl:=List.take_length) ?_
 simp only [Act.put,bF,bH,bG]
 refine dP 6 24 (.pointer (some ⟨gr,0,none⟩)) ?_
 simp only [Act.put,bF,bH,bG]
 refine dP 7 25 (.pointer (some ⟨gr,0,none⟩)) ?_
 simp only [Act.put,bF,bH,bG]
 refine dP 8 26 (.pointer (some ⟨gr,3,none⟩)) ?_
 simp only [Act.put,bF,bH,bG]
 refine dC (ah.mk MD.out.mem) 9 27 0 3 (.slice A3 s.ins.length c3) (hl:=List.take_length) ?_
 simp only [Act.put,bF,bH,bG]
 refine dP 10 28 (.int .i64 (s.ins.length : Int)) ?_
 simp only [Act.put,bF,bH,bG]
 refine dP 11 29 (.pointer (some ⟨gr,0,none⟩)) ?_
 simp only [Act.put,bF,bH,bG]
 refine dP 12 30 (.pointer (some ⟨gr,0,none⟩)) ?_
 simp only [Act.put,bF,bH,bG]
 refine dP 13 31 (.pointer (some ⟨gr,3,none⟩)) ?_
 simp only [Act.put,bF,bH,bG]
 refine dC (ah.mk MD.out.mem) 14 32 0 3 (.slice A3 s.ins.length c3) (hl:=List.take_length) ?_
 simp only [Act.put,bF,bH,bG]
 refine dP 15 33 (.int .i64 (s.ins.length : Int)) ?_
 simp only [Act.put,bF,bH,bG]
 refine dP 16 34 (.agg #[.int .i64 (s.ins.length : Int),.int .i64 (s.ins.length : Int)]) ?_
 simp only [Act.put,bF,bH,bG]
 refine dR [17] ?_
 refine fBs MD 17 35 [.int .i64 (s.ins.length : Int),.int .i64 (s.ins.length : Int)] 41 ?_ aK.nil
 simp only [Act.put,bF,bH,bG]
 have MF:=ah.mk (bf.front MD.out 1 rfl)
 clear MD
 refine dR [18] ?_
 refine fAp MF 18 36 [Value.int .i64 (s.ins.length : Int),.int .i64 (s.ins.length : Int)] [.int .i64 (s.ins.length : Int),.int .i64 (s.ins.length : Int)] (.agg #[.int .i64 0,.int .i64 0]) 16 BN.out ?_ (Jj [(s.ins.length : Int),(s.ins.length : Int)]) rfl (by decide) aK.nil
 clear MF
 intro v5 w6 MG
 simp only [Act.put,bF,bH,bG]
 refine dP 19 37 (.pointer (some ⟨gr,0,none⟩)) ?_
 simp only [Act.put,bF,bH,bG]
 refine dP 20 38 (.pointer (some ⟨gr,0,none⟩)) ?_
 simp only [Act.put,bF,bH,bG]
 refine dP 21 39 (.pointer (some ⟨gr,1,none⟩)) ?_
 simp only [Act.put,bF,bH,bG]
 refine dR [22] ?_
 refine fC MG 22 23 39 0 1 v5 (dN vc v5 vt (.slice A3 s.ins.length c3) gf gt gl (.slice none 0 0) s.cases false vu s.closed.wrong s.closed.line s.now) ?_ rfl rfl (bf.one MG.out 0 rfl) rfl aK.nil
 clear MG
 intro w7 MH
 refine aaP ?_
 have M4:=ah.mk (show Ee w0 w7 gr l ⟨vc,v5,vt,.slice A3 s.ins.length c3,.slice none 0 0,vu,gf,gt,gl,of,ot,ol,vs⟩ s.fn0 from by
  have hb:=bf.back 1 (by show 1 < (dO _ _).length; simp [dO]) MH.out
  have key : ∀ F,F = s.funcs.map ints ++ [ints [(s.ins.length : Int),(s.ins.length : Int)]] → bf vk w0 w7 ((gr,gZ ⟨vc,v5,vt,.slice A3 s.ins.length c3,.slice none 0 0,vu,gf,gt,gl,of,ot,ol,vs⟩ s.fn0,55) :: l) (Ea ⟨vc,v5,vt,.slice A3 s.ins.length c3,.slice none 0 0,vu,gf,gt,gl,of,ot,ol,vs⟩)
    (⟨Kd.int .u32,39,vc,s.code⟩ :: ⟨Kd.raw 2,41,v5,F⟩ :: (dO ⟨vc,v5,vt,.slice A3 s.ins.length c3,.slice none 0 0,vu,gf,gt,gl,of,ot,ol,vs⟩ s.fn0).drop 2):=fun F hF => by
   rw [hF]; exact hb
  exact key _ (by simp [St.fn0]))
 clear MH
 have M5:=ah.mk (dX.mk (k:=k + 1) M4.out Ae.out.fn ⟨(qP.out.mono (Nat.le_succ k)).f,(qP.out.mono (Nat.le_succ k)).t,(qP.out.mono (Nat.le_succ k)).l⟩ HLEN.out)
 clear M4
 by_cases h2 : n = 2
 ·obtain ⟨a,b,rfl⟩:=KO (HL.out.len.trans h2)
  subst h2
  have Qj:=Lib.hid (HL.out.small b (by simp))
  have JZ:=Lib.hid (fun W => jf b Qj.out W)
  have hcap : 2 ≤ c:=HL.out.cap
  have xb:=M5.out.word HL.out (j:=1) rfl
  go_wp2_with fail
  refine (JZ.out _).mono ?_
  rintro e w8 ⟨rfl,hd⟩
  have M6:=ah.mk (M5.out.call (gK hd))
  clear M5 hd xb
  cases hnb : Q.nameB b.data.toList with
  | false =>
   have HT:=Lib.hid (YV s a b hnb)
   have BJ:=Lib.hid (tq M6.out SS.out 70 s.now)
   have x11:=bY M6.out.mem 13 rfl
   clear hnb
   go_wp2_with fail
   refine BJ.out.mono ?_
   rintro e w9 ⟨rfl,M7⟩
   have M8:=ah.mk M7
   clear M7
   go_wp2
   go_returns
   rw [HT.out]
   exact ⟨rfl,_,M8.out⟩
  | true =>
   have HNB:=Lib.hid hnb
   clear hnb
   have x4:=bY M6.out.mem 4 rfl
   have xb:=M6.out.word HL.out (j:=1) rfl
   have hlk : ∀ j,(Instr.lookup 49 (.map (some gf)) (.string b) true).run Tryz.prog (w8.drewN j) = .ok (.tuple #[.int .i64 ((s.fm b).getD 0),.bool (s.fm b).isSome]) (w8.drewN j):=fun j =>
    M6.out.says.f.look NU (by kernel_rfl) (by kernel_rfl) ((M6.out.mem.drewN j).fix 0 _ rfl).1 (zero3 _) b (Bz (by have:=Qj.out; unfold maxLen; omega))
   cases hso : (s.fm b).isSome with
   | true =>
    have HT:=Lib.hid (V9 s a b HNB.out hso)
    rw [hso] at hlk
    go_wp2_with fail
    go_quiet (fail)
    have M7:=ah.mk (M6.out.call (aj (Below.refl _ _) nq))
    clear M6 hlk x4 xb hso
    revert M7
    generalize w8.drewN nq = w9
    intro M7
    have BJ:=Lib.hid (tq M7.out SS.out 72 s.now)
    have x11:=bY M7.out.mem 13 rfl
    go_wp2_with fail
    refine BJ.out.mono ?_
    rintro e w10 ⟨rfl,M8⟩
    have M9:=ah.mk M8
    clear M8
    go_wp2
    go_returns
    rw [HT.out]
    exact ⟨rfl,_,M9.out⟩
   | false =>
    have HT:=Lib.hid (ab8 s a b HNB.out hso)
    rw [hso] at hlk
    go_wp2_with fail
    go_quiet (fail)
    have M7:=ah.mk (M6.out.call (aj (Below.refl _ _) nq))
    clear M6 hlk x4 xb hso
    revert M7
    generalize w8.drewN nq = w9
    intro M7
    have x4:=bY M7.out.mem 4 rfl
    have xb:=M7.out.word HL.out (j:=1) rfl
    go_wp2_with fail
    go_still_tail 8,(by kernel_rfl)
    change wpList _ _ _ _ _ w9.drew
    have M8:=ah.mk (M7.out.mem.call (qC (Below.refl _ _)))
    have RU:=Lib.hid M7.out
    clear M7 x4 xb
    refine fM M8 0 rfl qP.out.f NU Ru (by kernel_rfl) (by kernel_rfl) (by have:=HK.out; unfold maxLen; omega) b (Bz (by have:=Qj.out; unfold maxLen; omega)) (s.funcs.length : Int) (wf64 (Nat.le_trans Ae.out.funcs (by have:=HK.out; omega))) ?_
    intro w10 o' M9 hm
    have HM:=Lib.hid hm
    clear hm M8
    go_wp2
    go_returns
    rw [HT.out]
    exact ⟨rfl,⟨vc,v5,vt,.slice A3 s.ins.length c3,.slice none 0 0,vu,gf,gt,gl,o',ot,ol,vs⟩,M9.out,RU.out.few.like,⟨HM.out,RU.out.says.t,RU.out.says.l⟩,RU.out.len⟩
 ·have h2b : ((n : Int) != 2) = true:=bne_iff_ne.mpr (by omega)
  have h2c : ((n : Int) == 2) = false:=beq_eq_false_iff_ne.mpr (by omega)
  have HT:=Lib.hid (YW s ws (fun e => h2 (HL.out.len.symm.trans e)))
  have BJ:=Lib.hid (tq M5.out SS.out 70 s.now)
  have x11:=bY M5.out.mem 13 rfl
  clear h2
  go_wp2_with fail
  refine BJ.out.mono ?_
  rintro e w8 ⟨rfl,M6⟩
  have M7:=ah.mk M6
  clear M6
  go_wp2
  go_returns
  rw [HT.out]
  exact ⟨rfl,_,M7.out⟩
end
end Go.Proofs.YtdbpglhdicmhhaaGreatDoor.qp
end
