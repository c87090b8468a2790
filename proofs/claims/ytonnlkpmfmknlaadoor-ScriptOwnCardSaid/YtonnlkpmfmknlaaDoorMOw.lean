import Derived.Test.YtonnlkpmfmknlaaDoorMC5
import Derived.Test.YtonnlkpmfmknlaaDoorMC
import Derived.Test.YtonnlkpmfmknlaaDoorMC1
import Derived.Test.YtonnlkpmfmknlaaDoorMC2
import Derived.Test.YtonnlkpmfmknlaaDoorMB6
import Derived.Test.YtonnlkpmfmknlaaDoorCards
import Derived.Test.YtonnlkpmfmknlaaDoorTie
import Derived.Test.YtonnlkpmfmknlaaDoorMB
import Derived.WalkKit
import Derived.ProofKit
import Derived.OpenShut
import Derived.ShutString
import Derived.ChangeOld
import Derived.Below
import Derived.SizedLaws
import Derived.Lib.SmallJoins
import Derived.Deep.DeepHandedRow
import Derived.Lib.LaidTab
import Derived.Deep.DeepLaidRun
section
/-
  ScriptOwn, walked: what is written into a view goes to no block below.
-/
set_option linter.unusedVariables false
set_option linter.unusedSimpArgs false
namespace Go.Proofs.YtonnlkpmfmknlaaDoor.Hof
open Go.RowKit Go.Shelf Go.Proofs.YtonnlkpmfmknlaaDoorW.PrintWords Go.Proofs.YtonnlkpmfmknlaaDoorW.PrintLast Go.Proofs.YtonnlkpmfmknlaaDoorW.PrintMore Hctx GA
/-- A slice of the call's own (above n1), whatever it holds. -/
def Any1 (n1 : Nat) (e : TypeId) (W : World) (h : Value) (m : Nat) : Prop := ∃ xs, W.ownsRow n1 e 1 h m xs
/-- Blocks keep their sizes and types. -/
def Keeps (W W' : World) : Prop := ∀ (k : Nat) (cur : Array Value) (e : TypeId), W.heap[k]? = some (.cells cur e (0, 0)) → ∃ cur' : Array Value, W'.heap[k]? = some (.cells cur' e (0, 0)) ∧ cur'.size = cur.size
theorem Any1.keep {n1 e m : Nat} {W W' : World} {v : Value} (h : Any1 n1 e W v m) (hk : Keeps W W') : Any1 n1 e W' v m := by
  obtain ⟨xs, hl, h⟩ := h
  rcases h with ⟨rfl, rfl⟩ | ⟨g, cap, cur, rfl, hg, hb, h1, h2, h3, h4⟩
  · exact ⟨[], World.ownsRow_nil _ _ _ _⟩
  · obtain ⟨cur', hb', hs⟩ := hk g cur e hb
    exact ⟨cur'.toList.take (m * 1), by rw [List.length_take, Array.length_toList]; omega, .inr ⟨g, cap, cur', rfl, hg, hb', h1, h2, by omega, rfl⟩⟩
theorem keeps_of {W W' : World} {b : Nat} {cs cs' : Array Value} {tb : TypeId} (hb : W.heap[b]? = some (.cells cs tb (0, 0))) (hn : W'.heap[b]? = some (.cells cs' tb (0, 0))) (hs : cs'.size = cs.size) (hk : ∀ i, i < W.heap.size → i ≠ b → W'.heap[i]? = W.heap[i]?) : Keeps W W' := fun k cur e h => by
  by_cases hkb : k = b
  · subst hkb
    rw [hb] at h
    injection h with h
    injection h with h1 h2 _
    subst h1; subst h2
    exact ⟨cs', hn, hs⟩
  · exact ⟨cur, (hk k (blk_lt h) hkb).trans h, rfl⟩
theorem keeps_same {W W' : World} (hk : ∀ i, i < W.heap.size → W'.heap[i]? = W.heap[i]?) : Keeps W W' := fun k cur e h => ⟨cur, (hk k (blk_lt h)).trans h, rfl⟩
theorem Keeps.trans {W W1 W2 : World} (h : Keeps W W1) (k : Keeps W1 W2) : Keeps W W2 := fun i cur e hi => by
  obtain ⟨c1, h1, e1⟩ := h i cur e hi
  obtain ⟨c2, h2, e2⟩ := k i c1 e h1
  exact ⟨c2, h2, e2.trans e1⟩
theorem append_any {P : Program} (W : World) (n1 : Nat) (t ty e : TypeId) (i : TypeInfo) (z : Value) (ht : P.underlying t = some (.slice e)) (hi : P.info? e = some i) (hz : i.zero = some z) (hsz : i.size = 1) (h : Value) (m : Nat) (hA : Any1 n1 e W h m) (a : Addr) (news : List Value) (hl : news.length = 4)
    (hnews : ∀ j u, news[j]? = some u → W.cell? (a.add j) = some u) (h1 : ∀ u ∈ news, u.oneCell' = true) (hb : (m + 4) * i.bytes ≤ 140737488355328) (hb1 : 1 ≤ i.bytes) (hn1 : n1 ≤ W.heap.size) :
    ∃ v' w', (Builtin.append_ #[t, t] ty #[h, .slice (some a) 4 4]).run P W = .ok v' w' ∧ v'.oneCell' = true ∧ Keeps W w' ∧ Below n1 W w' ∧ (∀ (k : Nat) (cur : Array Value) (e' : TypeId), W.heap[k]? = some (.cells cur e' (0, 0)) → e' ≠ e → w'.heap[k]? = W.heap[k]?) := by
  have hm4 : m + 4 ≤ 140737488355328 := Nat.le_trans (Nat.le_mul_of_pos_right _ hb1) hb
  have fresh : ∀ o : Obj, Keeps W (W.drew.alloc o) ∧ Below n1 W (W.drew.alloc o) ∧ (∀ (k : Nat) (cur : Array Value) (e' : TypeId), W.heap[k]? = some (.cells cur e' (0, 0)) → e' ≠ e → (W.drew.alloc o).heap[k]? = W.heap[k]?) := fun o => by
    have hold : ∀ k, k < W.heap.size → (W.drew.alloc o).heap[k]? = W.heap[k]? := fun k hk => heap_alloc_old W.drew o hk
    exact ⟨keeps_same hold, ((Below.refl n1 W).drew).alloc hn1 o, fun k cur e' hk _ => hold k (blk_lt hk)⟩
  obtain ⟨xs, hlx, hA⟩ := hA
  rcases hA with ⟨rfl, rfl⟩ | ⟨g, cap, cur, rfl, hg, hbk, q1, q2, q3, q4⟩
  · have hr := run_append_nil (P := P) W t ty e i z ht hi hz a 4 4 news (by rw [hl, hsz]) hnews (by omega) (by omega) (by omega)
    exact ⟨_, _, hr, rfl, fresh _⟩
  · by_cases hroom : m + 4 ≤ cap
    · have hr := run_append_room (P := P) W t ty e i ht hi g m cap cur hbk a 4 4 news (by rw [hl, hsz]) hnews h1 hroom (by rw [hl, hsz]; omega)
      have hset := setRow_heap W g cur (cur.toList.take (m * i.size) ++ news ++ cur.toList.drop (m * i.size + news.length)).toArray e (0, 0) hbk
      refine ⟨_, _, hr, rfl, keeps_of hbk hset ?_ (fun k _ hk => setRow_other W g k _ hk), below_setRow' (Below.refl _ _) hg _, fun k cur' e' hk he => setRow_other W g k _ (fun hkg => ?_)⟩
      · rw [hsz, hl]
        simp only [List.size_toArray, List.length_append, List.length_take, List.length_drop, Array.length_toList]
        omega
      · subst hkg
        rw [hbk] at hk
        injection hk with hk
        injection hk with _ hk _
        exact he hk.symm
    · have holds : ∀ j u, (cur.toList.take m)[j]? = some u → W.cell? ((⟨g, 0, none⟩ : Addr).add j) = some u := fun j u hu => by
        have hadd : (⟨g, 0, none⟩ : Addr).add j = ⟨g, j, none⟩ := by unfold Addr.add; split <;> simp_all
        rw [hadd, cell_of_row W g j cur e (0, 0) hbk]
        rw [List.getElem?_take] at hu
        split at hu
        · simpa using hu
        · cases hu
      have hr := run_append_grow (P := P) W t ty e i z ht hi hz ⟨g, 0, none⟩ m cap (cur.toList.take m) (by rw [hsz, List.length_take, Array.length_toList]; omega) holds a 4 4 news (by rw [hl, hsz]) hnews (by omega) (by omega) (growslice_fits (by omega) hb)
      exact ⟨_, _, hr, rfl, fresh _⟩
def ety (q : Nat) : TypeId := if q % 2 = 0 then 36 else 2
def eby (q : Nat) : Nat := if q % 2 = 0 then 4 else 8
theorem ety_even (i : Nat) : ety (i * 2) = 36 := by unfold ety; rw [if_pos (by omega)]
theorem ety_odd (i : Nat) : ety (i * 2 + 1) = 2 := by unfold ety; rw [if_neg (by omega)]
theorem eby_even (i : Nat) : eby (i * 2) = 4 := by unfold eby; rw [if_pos (by omega)]
theorem eby_odd (i : Nat) : eby (i * 2 + 1) = 8 := by unfold eby; rw [if_neg (by omega)]
theorem ety_ne (q : Nat) : ety q ≠ 32 := by unfold ety; split <;> decide
/-- A view that may be spoilt: its slices from place c on. -/
structure Sp (w1 W : World) (g : Nat) (cur : Array Value) (n c : Nat) : Prop where
  below : Below w1.heap.size w1 W
  blk : W.heap[g]? = some (.cells cur 32 (0, 0))
  ge : w1.heap.size ≤ g
  hs : ∀ q, c ≤ q → q < 2 * n → ∃ h m, cur[q]? = some h ∧ Any1 w1.heap.size (ety q) W h m ∧ (m + 4) * eby q ≤ 140737488355328
section
variable {w1 W W' : World} {g n c : Nat} {cur : Array Value}
theorem Sp.keep (S : Sp w1 W g cur n c) (hk : Keeps W W') (hg : W'.heap[g]? = W.heap[g]?) (hb : Below w1.heap.size w1 W') : Sp w1 W' g cur n c :=
  ⟨hb, hg.trans S.blk, S.ge, fun q h1 h2 => by
    obtain ⟨h, m, e1, e2, e3⟩ := S.hs q h1 h2
    exact ⟨h, m, e1, e2.keep hk, e3⟩⟩
theorem Sp.cell (S : Sp w1 W g cur n c) {q : Nat} {h : Value} (hq : cur[q]? = some h) : W.cell? ⟨g, q, none⟩ = some h := (blk_cell S.blk q).trans hq
variable {P : Program} {ops : Array Oper} {rest : List Oper} {o : Oper} {a : Act} {Q : Exit → Act → World → Prop}
/-- An element of one of the view's slices is stored. -/
theorem eKs (S : Aside0 (Sp w1 W g cur n c)) (t : TypeId) (p : Tmp) (q k : Nat) {b m cap : Nat} {ik : IntKind} {u : Int} (hc : c ≤ q) (hq : q < 2 * n) (hh : cur[q]? = some (.slice (some ⟨b, 0, none⟩) m cap)) (hk : k < m)
    (h : ∀ w', Aside0 (Sp w1 w' g cur n c) → wpList P ops Q rest a w')
    {x : Operand} (ho : o.op = .store t (.tmp p) x := by with_reducible rfl) (hn : o.dst = none := by with_reducible rfl) (hgd : o.guard = none := by with_reducible rfl)
    (hx : a.eval (.tmp p) = .pointer (some ⟨b, k, none⟩) := by first | rfl | (go_simp; done) | (go_simp; rfl)) (hv : a.eval x = .int ik u := by first | rfl | (go_simp; done) | (go_simp; rfl)) (hs : (P.info? t).map (·.size) = some 1 := by kernel_rfl) :
    wpList P ops Q (o :: rest) a W := by
  obtain ⟨h', m', e1, ⟨xs, _, hA⟩, e3⟩ := S.out.hs q hc hq
  rw [hh] at e1
  obtain rfl := Option.some.inj e1
  rcases hA with ⟨he, _⟩ | ⟨g', cap', cur', he, hg, hbk, q1, q2, q3, q4⟩
  · cases he
  · injection he with he1 he2 he3
    injection he1 with he1
    injection he1 with he1 _ _
    subst he1; subst he2; subst he3
    have hkc : k < cur'.size := by omega
    have hne : g ≠ b := by
      rintro rfl
      have h2 := S.out.blk
      rw [hbk] at h2
      injection h2 with h2
      injection h2 with _ h2 _
      exact ety_ne q h2
    refine cell_event hgd ho hn b k cur' (.int ik u) hx hv hbk (by rw [Array.getElem?_eq_getElem hkc]; rfl) hs rfl fun w' hn' hkb hB => ?_
    exact h w' ⟨S.out.keep (keeps_of hbk hn' (by simp) (fun i hi hne => hkb.2 i hi hne (by simp))) (hkb.2 g (blk_lt S.out.blk) hne (by simp)) (hB w1 S.out.below hg)⟩
/-- Four more are appended to one of the view's slices. -/
theorem eKa (S : Aside0 (Sp w1 W g cur n c)) (q : Nat) (hv : Value) {ik : IntKind} {u : Int} (hc : c ≤ q) (hq : q < 2 * n) (hh : cur[q]? = some hv)
    (h : ∀ v' w', v'.oneCell' = true → Aside0 (Sp w1 w' g cur n c) → wpList P ops Q rest (a.put o.dst v') w')
    {s x : Operand} {t e : TypeId} (ho : o.op = .call { callee := .builtin .append, args := #[s, x], argTypes := #[t, t] } := by with_reducible rfl) (hgd : o.guard = none := by with_reducible rfl)
    (he : ety q = e) (ht : P.underlying t = some (.slice e) := by kernel_rfl) (hinfo : (P.info? e).map (fun i => (i.zero, i.size, i.bytes)) = some (some (.int ik 0), 1, eby q))
    (hs : a.eval s = hv := by first | rfl | (go_simp; done) | (go_simp; rfl)) (hx : a.eval x = .slice (some ⟨W.heap.size, 0, none⟩) 4 4 := by first | rfl | (go_simp; done) | (go_simp; rfl)) :
    wpList P ops Q (o :: rest) a (W.alloc (.cells #[.int ik u, .int ik u, .int ik u, .int ik u] e)) := by
  obtain ⟨h', m', e1, hA, e3⟩ := S.out.hs q hc hq
  rw [hh] at e1
  obtain rfl := Option.some.inj e1
  subst he
  obtain ⟨i, hi⟩ : ∃ i, P.info? (ety q) = some i := by
    cases hz : P.info? (ety q) with
    | none => rw [hz] at hinfo; cases hinfo
    | some i => exact ⟨i, rfl⟩
  rw [hi] at hinfo
  have hinfo := Option.some.inj hinfo
  injection hinfo with i1 i2
  injection i2 with i2 i3
  have kw : Keeps W (W.alloc (.cells #[.int ik u, .int ik u, .int ik u, .int ik u] (ety q))) := keeps_same (fun k hk => heap_alloc_old W _ hk)
  have hsz : W.heap.size ≤ (W.alloc (.cells #[.int ik u, .int ik u, .int ik u, .int ik u] (ety q))).heap.size := (Below.alloc (Below.refl W.heap.size W) (Nat.le_refl _) _).size
  have hby1 : 1 ≤ eby q := by unfold eby; split <;> decide
  obtain ⟨v', w', hr, o1, k1, b1, n1⟩ := append_any (P := P) (W.alloc (.cells #[.int ik u, .int ik u, .int ik u, .int ik u] (ety q))) w1.heap.size t o.type (ety q) i (.int ik 0) ht hi i1 i2 hv m' (hA.keep kw) ⟨W.heap.size, 0, none⟩ [.int ik u, .int ik u, .int ik u, .int ik u] rfl
    (fun j z hz => by
      have hadd : (⟨W.heap.size, 0, none⟩ : Addr).add j = ⟨W.heap.size, j, none⟩ := by unfold Addr.add; split <;> simp_all
      rw [hadd, cell_of_row _ _ j _ _ _ (heap_alloc_new W _)]
      simpa using hz) (by simp [Value.oneCell']) (by rw [i3]; exact e3) (by rw [i3]; exact hby1) (Nat.le_trans S.out.below.size hsz)
  refine wpList_plain hgd fun K hK => ?_
  unfold Oper.wp execOp
  simp only [ho, resolve, invoke, builtin, Sem.run_bind, Sem.run_pure, Result.andThen_ok, List.map_toArray, List.map_cons, List.map_nil, hs, hx, hr]
  have hgb := S.out.blk
  have hga : (W.alloc (.cells #[.int ik u, .int ik u, .int ik u, .int ik u] (ety q))).heap[g]? = W.heap[g]? := heap_alloc_old W _ (blk_lt hgb)
  refine hK _ _ (h v' w' o1 ⟨S.out.keep (kw.trans k1) ((n1 g cur 32 (hga.trans hgb) (Ne.symm (ety_ne q))).trans hga) ?_⟩)
  have hb0 : Below w1.heap.size w1 (W.alloc (.cells #[.int ik u, .int ik u, .int ik u, .int ik u] (ety q))) := below_alloc S.out.below _
  exact ⟨b1.os.trans hb0.os, b1.tape.trans hb0.tape, b1.output.trans hb0.output, Nat.le_trans hb0.size b1.size, fun j hj => (b1.block j hj).trans (hb0.block j hj)⟩
/-- One of the view's slices is another one now. -/
theorem eKh (S : Aside0 (Sp w1 W g cur n c)) (t : TypeId) (p : Tmp) (q : Nat) (hv : Value) (h1 : hv.oneCell' = true) (hc : c ≤ q) (hq : q < 2 * n)
    (h : ∀ w', Aside0 (Sp w1 w' g (cur.setIfInBounds q hv) n (q + 1)) → wpList P ops Q rest a w')
    {x : Operand} (ho : o.op = .store t (.tmp p) x := by with_reducible rfl) (hn : o.dst = none := by with_reducible rfl) (hgd : o.guard = none := by with_reducible rfl)
    (hx : a.eval (.tmp p) = .pointer (some ⟨g, q, none⟩) := by first | rfl | (go_simp; done) | (go_simp; rfl)) (hve : a.eval x = hv := by first | rfl | (go_simp; done) | (go_simp; rfl)) (hs : (P.info? t).map (·.size) = some 1 := by kernel_rfl) :
    wpList P ops Q (o :: rest) a W := by
  obtain ⟨h', m', e1, hA, e3⟩ := S.out.hs q hc hq
  refine cell_event hgd ho hn g q cur hv hx hve S.out.blk (by rw [e1]; rfl) hs h1 fun w' hn' hkb hB => ?_
  have kw : Keeps W w' := keeps_of S.out.blk hn' (by simp) (fun i hi hne => hkb.2 i hi hne (by simp))
  refine h w' ⟨hB w1 S.out.below S.out.ge, hn', S.out.ge, fun j hj hj2 => ?_⟩
  obtain ⟨h2, m2, f1, f2, f3⟩ := S.out.hs j (by omega) hj2
  exact ⟨h2, m2, by rw [Array.getElem?_setIfInBounds_ne (by omega)]; exact f1, f2.keep kw, f3⟩
end
/-- What View hands back may be spoilt. -/
theorem sp_of {w1 W : World} {v : Value} {r : List S32} (hB : Below w1.heap.size w1 W) (hR : k32.R 32 W w1.heap.size (fun _ => True) v r) (hs : ∀ x ∈ r, x.f0.length * 4 ≤ 140737488351232 ∧ x.f1.length * 8 ≤ 140737488351232) :
    ∃ A c, v = .slice A r.length c ∧ (0 < r.length → ∃ g cur, A = some ⟨g, 0, none⟩ ∧ Sp w1 W g cur r.length 0) := by
  obtain ⟨_, inner, ⟨hl, hcase⟩, hreps⟩ := hR
  rcases hcase with ⟨rfl, h0⟩ | ⟨g, cap, cur, rfl, hg, hb, h1, h2, h3, h4⟩
  · exact ⟨none, 0, by rw [h0], fun h => by omega⟩
  · refine ⟨_, _, rfl, fun _ => ⟨g, cur, rfl, hB, hb, hg, fun q _ hq => ?_⟩⟩
    have hj : q / 2 < r.length := by omega
    obtain ⟨v0, v1, hcs, R0, R1⟩ := k32_openM (hreps.2 (q / 2) _ (List.getElem?_eq_getElem hj))
    have hz := hs _ (List.getElem_mem hj)
    have hin : ∀ d, d < 2 → inner[q / 2 * 2 + d]? = [v0, v1][d]? := fun d hd => by
      rw [← hcs, List.getElem?_take, if_pos (by show d < 2; exact hd), List.getElem?_drop]; rfl
    have hcu : ∀ d, inner[d]? = if d < r.length * 2 then cur[d]? else none := fun d => by
      rw [← h4, List.getElem?_take, Array.getElem?_toList]; rfl
    obtain ⟨_, in0, ow0, _⟩ := R0
    obtain ⟨_, in1, ow1, _⟩ := R1
    rcases Nat.mod_two_eq_zero_or_one q with hm | hm
    · have hqq : q / 2 * 2 + 0 = q := by omega
      have hc := hin 0 (by decide)
      rw [hqq, hcu q, if_pos (by omega)] at hc
      refine ⟨v0, r[q / 2].f0.length, hc, ⟨in0, ?_⟩, ?_⟩
      · unfold ety; rw [if_pos hm]; exact ow0
      · unfold eby; rw [if_pos hm]; omega
    · have hqq : q / 2 * 2 + 1 = q := by omega
      have hc := hin 1 (by decide)
      rw [hqq, hcu q, if_pos (by omega)] at hc
      refine ⟨v1, r[q / 2].f1.length, hc, ⟨in1, ?_⟩, ?_⟩
      · unfold ety; rw [if_neg (by omega)]; exact ow1
      · unfold eby; rw [if_neg (by omega)]; omega
end Go.Proofs.YtonnlkpmfmknlaaDoor.Hof
end

section
/-
  ScriptOwn's walk.
-/
set_option linter.unusedVariables false
set_option linter.unusedSimpArgs false
namespace Go.Proofs.YtonnlkpmfmknlaaDoor.Hof
open Go.RowKit Go.Shelf Go.Proofs.YtonnlkpmfmknlaaDoorW.PrintWords Go.Proofs.YtonnlkpmfmknlaaDoorW.PrintLast Go.Proofs.YtonnlkpmfmknlaaDoorW.PrintMore Hctx GA
theorem any1_slice {n1 e m : Nat} {W : World} {h : Value} (hA : Any1 n1 e W h m) : ∃ A c, h = .slice A m c ∧ (0 < m → ∃ b, A = some ⟨b, 0, none⟩) := by
  obtain ⟨xs, _, h⟩ := hA
  rcases h with ⟨rfl, rfl⟩ | ⟨g, cap, cur, rfl, _⟩
  · exact ⟨none, 0, rfl, fun h => by omega⟩
  · exact ⟨_, _, rfl, fun _ => ⟨g, rfl⟩⟩
theorem S_to {w W : World} {base : Nat} {v : Value} {r : List S32} (h : Kd.S k32 32 W base (fun _ => True) v r) : ∃ A c, v = .slice A r.length c ∧ r.length ≤ c ∧ k32.C W A r.length r := Kd.R_reads (Kd.S_R h)
set_option maxHeartbeats 4000000 in
set_option maxRecDepth 100000 in
theorem own_calls (K : Nat) (A : Option Addr) (ca : Nat) (l : List S32) (B : Option Addr) (cb : Nat) (of : List Int) (r : List S32) (w : World) (S0 : Std w) (hA : k32.C w A l.length l) (hcA : l.length ≤ ca) (hB : (Kd.int .i64).C w B of.length of) (hcB : of.length ≤ cb)
    (hs : ∀ x ∈ r, x.f0.length * 4 ≤ 140737488351232 ∧ x.f1.length * 8 ≤ 140737488351232) (hn : r.length ≤ 9223372036854775000)
    (ht : rotalaw19_twin.f K l = some l) (hi : rotalaw19_ints.f K of = some of) (hv : script_View.f K l of = some r) (hrv : rotaref19_View.f K l of = some r) (hsv : rotaref19_Same.f K r r = some true) (hsl : rotaref19_Same.f K l l = some true) :
    Calls Tryd.prog 5 #[.slice A l.length ca, .slice B of.length cb] w fun e W' => e = .returned (.bool true) ∧ Below w.heap.size w W' := by
  have HA := Lib.hid hA
  have HB := Lib.hid hB
  have HCA := Lib.hid hcA
  have HCB := Lib.hid hcB
  have S := Lib.hid S0
  have HS := Lib.hid hs
  have HN := Lib.hid hn
  have HT := Lib.hid ht
  have HI := Lib.hid hi
  have HV := Lib.hid hv
  have HRV := Lib.hid hrv
  have HSV := Lib.hid hsv
  have HSL := Lib.hid hsl
  clear hA hcA hB hcB S0 hs hn ht hi hv hrv hsv hsl
  go_enter Tryd.func5, Tryd.ntmps5
  go_wp2_with fail
  refine (rotalaw19_twin.calls K A ca l l w HA.out HCA.out HT.out).mono ?_
  rintro e W14 ⟨v5, rfl, hS, hb14⟩
  obtain ⟨A5, c5, rfl, hc5, hC5⟩ := S_to (w := w) hS
  have H5 := Lib.hid (And.intro hc5 hC5)
  have B14 := Lib.hid hb14
  clear hS hc5 hC5 hb14
  go_wp2_with fail
  refine (rotalaw19_ints.calls K B cb of of W14 (Kd.C_below HB.out B14.out) HCB.out HI.out).mono ?_
  rintro e W16 ⟨v6, rfl, hS, hb16⟩
  obtain ⟨A6, c6, rfl, hc6, hC6⟩ := Kd.R_reads hS
  have H6 := Lib.hid (And.intro hc6 hC6)
  have B16 := Lib.hid hb16
  clear hS hc6 hC6 hb16
  go_wp2_with fail
  refine (rotaref19_View.calls K A ca l B cb of r W16 (Kd.C_below (Kd.C_below HA.out B14.out) B16.out) HCA.out (Kd.C_below (Kd.C_below HB.out B14.out) B16.out) HCB.out HRV.out).mono ?_
  rintro e W19 ⟨v7, rfl, hS, hb19⟩
  obtain ⟨A7, c7, rfl, hc7, hC7⟩ := S_to (w := w) hS
  have BW := Lib.hid (below_step (below_step B14.out B16.out) hb19)
  have R5 := Lib.hid (Kd.C_below (Kd.C_below H5.out.2 B16.out) hb19)
  have R6 := Lib.hid (Kd.C_below H6.out.2 hb19)
  have R7 := Lib.hid hC7
  have C5 := Lib.hid H5.out.1
  have C6 := Lib.hid H6.out.1
  have C7 := Lib.hid hc7
  clear hS hc7 hC7 hb19 H5 H6 B14 B16
  go_wp2_with fail
  go_loopw [8] (fun v8 wr => ∃ i : Nat, i ≤ 2 ∧ v8 = .int .i64 i ∧ Below W19.heap.size W19 wr) (fun v8 _ => 2 - (intOf v8).toNat)
  case atStart => exact ⟨0, by omega, rfl, Below.refl _ _⟩
  rename World => w8
  obtain ⟨i, hi2, rfl, hbr⟩ := hrel
  have BR := Lib.hid hbr
  clear hbr
  by_cases hir : i < 2
  · have HIR := Lib.hid hir
    have q2 : (i : Int) < 2 := by omega
    have W8 := Lib.hid (show wrap64 ((i : Int) + 1) = ((i + 1 : Nat) : Int) by rw [Int.natCast_add]; exact IntWalk.wrap64_in _ (by omega))
    clear hir hi2
    go_wp2_with fail
    refine (script_View.calls K A5 c5 l A6 c6 of r w8 (Kd.C_below R5.out BR.out) C5.out (Kd.C_below R6.out BR.out) C6.out HV.out).mono ?_
    rintro e W26 ⟨v9, rfl, hS, hb26⟩
    obtain ⟨A9, c9, rfl, hsp⟩ := sp_of hb26 (Kd.S_R hS) HS.out
    obtain ⟨A9', c9', he9, hc9, hC9⟩ := S_to (w := w) hS
    injection he9 with e1 e2 e3
    subst e1; subst e3
    clear e2
    have SP := Lib.hid hsp
    have B26 := Lib.hid hb26
    have C9 := Lib.hid (And.intro hc9 hC9)
    clear hS hb26 hsp hc9 hC9
    go_wp2_with fail
    refine (lives_calls W26 (S.out.below (below_step BW.out (below_step BR.out B26.out)))).mono ?_
    rintro e W27 ⟨rfl, hb27⟩
    have B27 := Lib.hid hb27
    clear hb27
    go_wp2_with fail
    refine (rotaref19_Same.calls K A9 c9 r A7 c7 r true W27 (Kd.C_below C9.out.2 B27.out) C9.out.1 (Kd.C_below (Kd.C_below (Kd.C_below R7.out BR.out) B26.out) B27.out) C7.out HSV.out).mono ?_
    rintro e W32 ⟨rfl, hb32⟩
    have B32 := Lib.hid hb32
    clear hb32
    go_wp2_with fail
    have BWW := Lib.hid (below_step (below_step (below_step BR.out B26.out) B27.out) B32.out)
    refine (rotaref19_Same.calls K A5 c5 l A ca l true W32 (Kd.C_below R5.out BWW.out) C5.out (Kd.C_below HA.out (below_step BW.out BWW.out)) HCA.out HSL.out).mono ?_
    rintro e W38 ⟨rfl, hb38⟩
    have BB := Lib.hid (below_step (below_step B27.out B32.out) hb38)
    have SQ := Lib.hid (fun h => (SP.out h : ∃ g cur, A9 = some ⟨g, 0, none⟩ ∧ Sp w8 W26 g cur r.length 0))
    have SP2 : RowKit.Hid (0 < r.length → ∃ g cur, A9 = some ⟨g, 0, none⟩ ∧ Sp w8 W38 g cur r.length 0) := Lib.hid (fun h => by
      obtain ⟨g, cur, e, S⟩ := SQ.out h
      exact ⟨g, cur, e, S.keep (keeps_same (fun k hk => BB.out.block k hk)) (BB.out.block g (blk_lt S.blk)) (below_step S.below BB.out)⟩)
    have B38 := Lib.hid (below_step B26.out BB.out)
    clear hb38 SP SQ BB BWW B32 B27 B26 C9
    go_wp2_with fail
    go_loopw [10] (fun v10 w2 => ∃ j : Nat, j ≤ r.length ∧ v10 = .int .i64 j ∧ Below w8.heap.size w8 w2 ∧ (0 < r.length → ∃ g cur, A9 = some ⟨g, 0, none⟩ ∧ Sp w8 w2 g cur r.length (2 * j))) (fun v10 _ => r.length - (intOf v10).toNat)
    case atStart => exact ⟨0, Nat.zero_le _, rfl, B38.out, SP2.out⟩
    rename World => w2
    obtain ⟨j, hj, rfl, hb2, hsp2⟩ := hrel
    clear SP2 B38
    by_cases hjr : j < r.length
    · obtain ⟨g, cur, rfl, hS2⟩ := hsp2 (by omega)
      have HJR := Lib.hid hjr
      have qj : (j : Int) < (r.length : Int) := by omega
      have W10 := Lib.hid (show wrap64 ((j : Int) + 1) = ((j + 1 : Nat) : Int) by rw [Int.natCast_add]; exact IntWalk.wrap64_in _ (by have := HN.out; omega))
      obtain ⟨h0, m0, hc0, hA0, hm0⟩ := hS2.hs (j * 2) (by omega) (by omega)
      obtain ⟨h1, m1, hc1, hA1, hm1⟩ := hS2.hs (j * 2 + 1) (by omega) (by omega)
      obtain ⟨D0, d0, rfl, hb0⟩ := any1_slice hA0
      obtain ⟨D1, d1, rfl, hb1⟩ := any1_slice hA1
      rw [eby_even] at hm0
      rw [eby_odd] at hm1
      have HC0 := Lib.hid hc0
      have HC1 := Lib.hid hc1
      have HB0 := Lib.hid hb0
      have HB1 := Lib.hid hb1
      have HM0 := Lib.hid hm0
      have HM1 := Lib.hid hm1
      have SA := Aside0.mk hS2
      clear hjr hj hsp2 hS2 hb2 hc0 hc1 hA0 hA1 hb0 hb1 hm0 hm1
      go_wp2_with fail
      go_loopw [11] (fun v11 w3 => ∃ k : Nat, k ≤ m0 ∧ v11 = .int .i64 k ∧ Sp w8 w3 g cur r.length (2 * j)) (fun v11 _ => m0 - (intOf v11).toNat)
      case atStart => exact ⟨0, Nat.zero_le _, rfl, SA.out⟩
      rename World => w3
      obtain ⟨k, hk, rfl, hS3⟩ := hrel
      have x0 : w3.cell? ⟨g, j * 2, none⟩ = some (.slice D0 m0 d0) := hS3.cell HC0.out
      have SB := Aside0.mk hS3
      clear hS3 SA
      by_cases hkm : k < m0
      · obtain ⟨b, rfl⟩ := HB0.out (by omega)
        have qk : (k : Int) < (m0 : Int) := by omega
        have HKM := Lib.hid hkm
        have W11 := Lib.hid (show wrap64 ((k : Int) + 1) = ((k + 1 : Nat) : Int) by rw [Int.natCast_add]; exact IntWalk.wrap64_in _ (by have := HM0.out; omega))
        clear hkm hk
        go_wp2_with (first
          | ((with_reducible refine gate_store (t := 36) (p := 63) rfl ?_); refine eKs SB 36 63 (j * 2) k (ik := .u32) (u := 777) (by omega) (by have := HJR.out; omega) HC0.out HKM.out ?_; clear SB x0; intro w4 SC))
        go_roundw
        case rel => exact ⟨k + 1, HKM.out, by rw [W11.out], SC.out⟩
        case measure => exact meas HKM.out W11.out
      · have qk : ¬ (k : Int) < (m0 : Int) := by omega
        clear hkm hk
        go_wp2_with fail
        go_loopw [12] (fun v12 w5 => ∃ k : Nat, k ≤ m1 ∧ v12 = .int .i64 k ∧ Sp w8 w5 g cur r.length (2 * j)) (fun v12 _ => m1 - (intOf v12).toNat)
        case atStart => exact ⟨0, Nat.zero_le _, rfl, SB.out⟩
        rename World => w5
        obtain ⟨k1, hk1, rfl, hS5⟩ := hrel
        have x1 : w5.cell? ⟨g, j * 2 + 1, none⟩ = some (.slice D1 m1 d1) := hS5.cell HC1.out
        have x0 : w5.cell? ⟨g, j * 2, none⟩ = some (.slice D0 m0 d0) := hS5.cell HC0.out
        have SD := Aside0.mk hS5
        clear hS5 SB
        by_cases hkm1 : k1 < m1
        · obtain ⟨b, rfl⟩ := HB1.out (by omega)
          have qk1 : (k1 : Int) < (m1 : Int) := by omega
          have HKM := Lib.hid hkm1
          have W12 := Lib.hid (show wrap64 ((k1 : Int) + 1) = ((k1 + 1 : Nat) : Int) by rw [Int.natCast_add]; exact IntWalk.wrap64_in _ (by have := HM1.out; omega))
          clear hkm1 hk1
          go_wp2_with (first
            | ((with_reducible refine gate_store (t := 2) (p := 80) rfl ?_); refine eKs SD 2 80 (j * 2 + 1) k1 (ik := .i64) (u := 777) (by omega) (by have := HJR.out; omega) HC1.out HKM.out ?_; clear SD x0 x1; intro w6 SE))
          go_roundw
          case rel => exact ⟨k1 + 1, HKM.out, by rw [W12.out], SE.out⟩
          case measure => exact meas HKM.out W12.out
        · have qk1 : ¬ (k1 : Int) < (m1 : Int) := by omega
          clear hkm1 hk1
          go_wp2_with (first
            | ((with_reducible refine gate_builtin (b := .append) (xs := #[.tmp 87, .tmp 88]) rfl ?_); at_builtin; refine eKa SD (j * 2) (.slice D0 m0 d0) (ik := .u32) (u := 778) (by omega) (by have := HJR.out; omega) HC0.out ?_ (he := ety_even j) (hinfo := by rw [eby_even]; kernel_rfl); clear SD x0 x1; intro v89 w7 o89 SF)
            | ((with_reducible refine gate_store (t := 29) (p := 91) rfl ?_); refine eKh SF 29 91 (j * 2) v89 o89 (by omega) (by have := HJR.out; omega) ?_; clear SF; intro w8 SG; have x1 : w8.cell? ⟨g, j * 2 + 1, none⟩ = some (.slice D1 m1 d1) := SG.out.cell (by rw [Array.getElem?_setIfInBounds_ne (by omega)]; exact HC1.out))
            | ((with_reducible refine gate_builtin (b := .append) (xs := #[.tmp 98, .tmp 99]) rfl ?_); at_builtin; refine eKa SG (j * 2 + 1) (.slice D1 m1 d1) (ik := .i64) (u := 778) (by omega) (by have := HJR.out; omega) (by rw [Array.getElem?_setIfInBounds_ne (by omega)]; exact HC1.out) ?_ (he := ety_odd j) (hinfo := by rw [eby_odd]; kernel_rfl); clear SG x1; intro v100 w9 o100 SH)
            | ((with_reducible refine gate_store (t := 30) (p := 102) rfl ?_); refine eKh SH 30 102 (j * 2 + 1) v100 o100 (by omega) (by have := HJR.out; omega) ?_; clear SH; intro w10 SI))
          go_roundw
          case rel => exact ⟨j + 1, HJR.out, by rw [W10.out], SI.out.below, fun _ => ⟨g, _, rfl, by rw [show 2 * (j + 1) = j * 2 + 1 + 1 by omega]; exact SI.out⟩⟩
          case measure => exact meas HJR.out W10.out
    · have qj : ¬ (j : Int) < (r.length : Int) := by omega
      have HB2 := Lib.hid hb2
      clear hjr hj hsp2 hb2
      go_wp2
      go_roundw
      case rel => exact ⟨i + 1, HIR.out, congrArg _ (by omega), below_step BR.out HB2.out⟩
      case measure =>
        have h1 := HIR.out
        show 2 - ((i : Int) + 1).toNat < 2 - ((i : Int)).toNat
        omega
  · have q2 : ¬ (i : Int) < 2 := by omega
    clear hir hi2
    go_wp2_with fail
    refine (rotaref19_Same.calls K A5 c5 l A ca l true w8 (Kd.C_below R5.out BR.out) C5.out (Kd.C_below HA.out (below_step BW.out BR.out)) HCA.out HSL.out).mono ?_
    rintro e W105 ⟨rfl, hb105⟩
    have BF := Lib.hid (below_step (below_step BW.out BR.out) hb105)
    clear hb105
    go_wp2
    go_ret
    exact ⟨rfl, BF.out⟩
end Go.Proofs.YtonnlkpmfmknlaaDoor.Hof
end

section
/-
  ScriptOwn in plain Lean: what its calls come to.
-/
set_option linter.unusedVariables false
set_option linter.unusedSimpArgs false
namespace Go.Proofs.YtonnlkpmfmknlaaDoor.Q
open Go.RowKit Go.Shelf Go.Proofs.YtonnlkpmfmknlaaDoorW.PrintWords Go.Proofs.YtonnlkpmfmknlaaDoorW.PrintLast Go.Proofs.YtonnlkpmfmknlaaDoorW.PrintMore Go.Proofs.YtonnlkpmfmknlaaDoor.GA
theorem view_mem (xs : List S32) (of : List Int) (hs : ∀ x ∈ xs, x.f0.length * 4 ≤ 140737488351232 ∧ x.f1.length * 8 ≤ 140737488351232) : ∀ x ∈ viewTo xs of xs.length, x.f0.length * 4 ≤ 140737488351232 ∧ x.f1.length * 8 ≤ 140737488351232 := by
  intro x hx
  unfold viewTo at hx
  obtain ⟨j, hj, rfl⟩ := List.mem_map.1 hx
  have hj := List.mem_range.1 hj
  by_cases h : (j : Int) ∈ of
  · rw [if_pos h, rdT_at xs j hj]; exact hs _ (List.getElem_mem hj)
  · rw [if_neg h]; exact ⟨by decide, by decide⟩
theorem own_law (A : Option Addr) (ca : Nat) (l0 : List S32) (B : Option Addr) (cb : Nat) (l2 : List Int) (w : World) (S0 : Hof.Std w) (hA : k32.C w A l0.length l0) (hcA : l0.length ≤ ca) (hB : (Kd.int .i64).C w B l2.length l2) (hcB : l2.length ≤ cb)
    (h0 : l0.length < 2932031007402) (h2 : l2.length < 17592186044416) (hs : ∀ x ∈ l0, x.f0.length * 4 ≤ 140737488351232 ∧ x.f1.length * 8 ≤ 140737488351232) (s0 : Small l0) :
    Calls Tryd.prog 5 #[.slice A l0.length ca, .slice B l2.length cb] w fun e W' => e = .returned (.bool true) ∧ Below w.heap.size w W' := by
  have b0 : ∀ i, (rd_T32 l0 i).f0.length + (rd_T32 l0 i).f1.length + 3 ≤ 52776558133260 := fun i => by have := s0 i; omega
  refine Hof.own_calls 100000000000000 A ca l0 B cb l2 (viewTo l0 l2 l0.length) w S0 hA hcA hB hcB (view_mem l0 l2 hs) (by rw [viewTo_len]; omega) ?_ ?_ ?_ ?_ ?_ ?_
  · exact twin_l l0 h0 s0 52776558133260 (fun i => by have := b0 i; omega) l0.length 0 (by omega) _ (by omega)
  · exact ints_l l2 h2 l2.length 0 (by omega) _ (by omega)
  · exact pview l0 l2 h0 s0 (by omega) l0.length 0 (by omega) _ (by omega)
  · exact rview l0 l2 h0 s0 (by omega) 52776558133260 (fun i => by have := b0 i; omega) (by omega) l0.length 0 (by omega) _ (by omega)
  · unfold rotaref19_Same.f
    rw [if_pos rfl]
    exact same_l _ (by rw [viewTo_len]; omega) (fun i => view_of l2 _ (P := fun x => x.f0.length < 35184372088832 ∧ x.f1.length < 17592186044416) ⟨by decide, by decide⟩ s0 i) 52776558133260 (fun i => view_of l2 _ (P := fun x => x.f0.length + x.f1.length + 3 ≤ 52776558133260) (by decide) b0 i) _ 0 (Nat.zero_add _) _ (by rw [viewTo_len]; omega)
  · unfold rotaref19_Same.f
    rw [if_pos rfl]
    exact same_l _ (by omega) s0 52776558133260 b0 _ 0 (Nat.zero_add _) _ (by omega)
end Go.Proofs.YtonnlkpmfmknlaaDoor.Q
end

section
/-
  Choices that are handed in stay; those that come out are new memory.
-/
set_option linter.unusedVariables false
set_option linter.unusedSimpArgs false
namespace Go.Proofs.YtonnlkpmfmknlaaDoor.scriptOwn
open Go.ChangeShapes Go.WideShapes Go.ChangeAt Go.RowKit Go.Proofs.YtonnlkpmfmknlaaDoorW.PrintWords Go.Proofs.YtonnlkpmfmknlaaDoor.Opn
open Go.ChangeMaps (open_string shut_string)
theorem own : ownKnob Tryd.prog.godebug = none := by kernel_rfl
theorem laidOut : laidOutB Tryd.prog = true := by kernel_rfl
set_option maxRecDepth 100000 in
theorem contract (H : Type) (enc : TypeId × Value → H) (W : World) (base : Nat) (args : Array Value) (ds gs : List (DataW H)) (before : List MemPlace)
    (hval0 : ∀ (j : Nat) t v, Tryd.f5.params[j]? = some t → args[j]? = some v → Value.okWide Tryd.prog W .any base t v)
    (hW : DataW.Whole enc Tryd.prog Tryd.f5.params.toList Rows.scriptOwnSpec.vars false W args.toList ds gs before)
    (hsz0 : (DataW.weightsEach Tryd.prog (Tryd.f5.params.toList ++ (OpenSpec.ofChange Rows.scriptOwnSpec).bare.plain.varTypes Tryd.prog) (ds ++ gs)).all (· ≤ reachBytes) = true)
    (hSh : W.ShapedOpen Tryd.prog)
    (hL : laidMetH Tryd.prog Rows.scriptOwnRow.laid W) :
    Calls Tryd.prog 5 args W fun e W' => ∃ v, e = .returned v ∧ Rows.scriptOwnSpec.post enc Tryd.prog Tryd.f5 false true false false W args v W' := by
  have hsz : (DataW.weightsEach Tryd.prog (Tryd.f5.params.toList ++ Rows.scriptOwnSpec.plain.varTypes Tryd.prog) (ds ++ gs)).all (· ≤ reachBytes) = true := hsz0
  have hval : ∀ (j : Nat) t v, Tryd.f5.params[j]? = some t → args[j]? = some v → Value.okWide Tryd.prog W .any base t v := hval0
  have hStd : Hof.Std W := Laid.std_of (show laidMet Tryd.prog Laid.seven W from hL) hSh
  have hW' := hW
  obtain ⟨p, q, hA0, hV, rfl, hfz, hnd⟩ := hW
  have hA : DataW.TrodAll enc Tryd.prog W 0 (fun _ => true) true Tryd.f5.params.toList args.toList ds p := hA0
  rw [Tryd.params5] at hA hval hsz
  obtain ⟨v0, vs0, d0, ds0, p0, q0, hargs, rfl, rfl, h0, r0⟩ := trodAll_cons hA
  obtain ⟨v1, vs1, d1, ds1, p1, q1, rfl, rfl, rfl, h1, r1⟩ := trodAll_cons r0
  obtain ⟨rfl, rfl, rfl⟩ := trodAll_nil r1
  obtain rfl : args = #[v0, v1] := by cases args; simp_all
  obtain ⟨rfl, rfl⟩ := trodVars_none hV
  have k0 := h0
  have lt0 : ∀ x ∈ p0, x.block < W.heap.size := by obtain ⟨m, hm⟩ := k0; exact DataW.trod_lt m _ _ _ hm
  have ws0 : ∀ n ∈ d0.weights Tryd.prog 22, n ≤ reachBytes := fun n hn => by simpa using List.all_eq_true.1 hsz n (DataW.weights_mem_each (j := 0) rfl rfl n hn)
  obtain ⟨x0, K0, G0⟩ : ∃ x, (Kd.slice 32 GA.k32).K W x v0.cells.toList ∧ GSl 48 Kinds.G32 x (Rows.uptoBulk d0) := by
    obtain ⟨fuel, hf⟩ := h0
    exact Kinds.o22.opens enc W 0 _ _ fuel _ _ hf ws0
  obtain ⟨a0, len0, cap0, rfl⟩ := okWide_slice Tryd.underlying22 (hval 0 22 v0 rfl rfl)
  obtain ⟨A0, c0, e0, hc0, hC0⟩ := K0
  simp only [Value.cells, List.cons.injEq, and_true, Value.slice.injEq] at e0
  obtain ⟨rfl, rfl, rfl⟩ := e0
  have k1 := h1
  have lt1 : ∀ x ∈ p1, x.block < W.heap.size := by obtain ⟨m, hm⟩ := k1; exact DataW.trod_lt m _ _ _ hm
  have ws1 : ∀ n ∈ d1.weights Tryd.prog 39, n ≤ reachBytes := fun n hn => by simpa using List.all_eq_true.1 hsz n (DataW.weights_mem_each (j := 1) rfl rfl n hn)
  obtain ⟨x1, K1, G1⟩ : ∃ x, (Kd.slice 3 (Kd.int .i64)).K W x v1.cells.toList ∧ GSl 8 (GInt .i64) x (Rows.uptoBulk d1) := by
    obtain ⟨fuel, hf⟩ := h1
    exact Kinds.o39.opens enc W 0 _ _ fuel _ _ hf ws1
  obtain ⟨a1, len1, cap1, rfl⟩ := okWide_slice Tryd.underlying39 (hval 1 39 v1 rfl rfl)
  obtain ⟨A1, c1, e1, hc1, hC1⟩ := K1
  simp only [Value.cells, List.cons.injEq, and_true, Value.slice.injEq] at e1
  obtain ⟨rfl, rfl, rfl⟩ := e1
  clear hA0 hval hsz
  have sm0 : Q.Small x0 := fun j => by
    unfold GA.rd_T32
    rw [List.getD_eq_getElem?_getD]
    cases hq : x0[j.toNat]? with
    | none => exact ⟨by decide, by decide⟩
    | some y =>
      have hy := G0.2.2.2 y (List.mem_of_getElem? hq)
      have y0 : y.f0.length * 4 ≤ 140737488351232 := hy.1.1
      have y1 : y.f1.length * 8 ≤ 140737488351232 := hy.2.1
      show y.f0.length < _ ∧ y.f1.length < _
      omega
  have hsm0 : ∀ x ∈ x0, x.f0.length * 4 ≤ 140737488351232 ∧ x.f1.length * 8 ≤ 140737488351232 := fun y hy => by
    have hy := G0.2.2.2 y hy
    exact ⟨hy.1.1, hy.2.1⟩
  refine (Q.own_law _ _ x0 _ _ x1 W hStd hC0 hc0 hC1 hc1 (by have h := G0.1; omega) (by have h := G1.1; omega) hsm0 sm0).mono fun e W' ⟨he, bel⟩ => ?_
  subst he
  exact ⟨_, rfl, _, _, _, [], _, [], hW', trodAll_mk1 (shut_bool Tryd.underlying4 _), (trodAll_cons_mk (Below.trod laidOut (by kernel_rfl) (of_decide_eq_true (by kernel_rfl)) k0 bel lt0) (trodAll_cons_mk (Below.trod laidOut (by kernel_rfl) (of_decide_eq_true (by kernel_rfl)) k1 bel lt1) trodAll_mk0)), rfl, bel.frame _, fun h => by cases h⟩
def lay (cs : Array Value) : Obj → Obj
  | .cells _ t frozen => .cells cs t frozen
  | o => o
noncomputable def laidWorld (os : Os) : World := { World.holding Tryd.prog os ⟨#[], #[], []⟩ with heap := ((((((((((World.holding Tryd.prog os ⟨#[], #[], []⟩).heap.modify 0 (lay #[.int .u64 1, .int .u64 10, .int .u64 100, .int .u64 1000, .int .u64 10000, .int .u64 100000, .int .u64 1000000, .int .u64 10000000, .int .u64 100000000, .int .u64 1000000000, .int .u64 10000000000, .int .u64 100000000000, .int .u64 1000000000000, .int .u64 10000000000000, .int .u64 100000000000000, .int .u64 1000000000000000, .int .u64 10000000000000000, .int .u64 100000000000000000, .int .u64 1000000000000000000, .int .u64 10000000000000000000])).modify 2 (lay #[.iface 150 (.pointer (some ⟨(World.holding Tryd.prog os ⟨#[], #[], []⟩).heap.size, 0, none⟩))])).modify 3 (lay #[.iface 150 (.pointer (some ⟨(World.holding Tryd.prog os ⟨#[], #[], []⟩).heap.size + 1, 0, none⟩))])).modify 4 (lay (Go.Pinned.utf8FirstZ.map fun (n : Nat) => Value.int .u8 (n : Int)).toArray)).modify 5 (lay #[.int .u8 128, .int .u8 191, .int .u8 160, .int .u8 191, .int .u8 128, .int .u8 159, .int .u8 144, .int .u8 191, .int .u8 128, .int .u8 143, .int .u8 0, .int .u8 0, .int .u8 0, .int .u8 0, .int .u8 0, .int .u8 0, .int .u8 0, .int .u8 0, .int .u8 0, .int .u8 0, .int .u8 0, .int .u8 0, .int .u8 0, .int .u8 0, .int .u8 0, .int .u8 0, .int .u8 0, .int .u8 0, .int .u8 0, .int .u8 0, .int .u8 0, .int .u8 0])).modify 6 (lay #[.int .u8 0, .int .u8 1, .int .u8 28, .int .u8 2, .int .u8 29, .int .u8 14, .int .u8 24, .int .u8 3, .int .u8 30, .int .u8 22, .int .u8 20, .int .u8 15, .int .u8 25, .int .u8 17, .int .u8 4, .int .u8 8, .int .u8 31, .int .u8 27, .int .u8 13, .int .u8 23, .int .u8 21, .int .u8 19, .int .u8 16, .int .u8 7, .int .u8 26, .int .u8 12, .int .u8 18, .int .u8 6, .int .u8 11, .int .u8 5, .int .u8 10, .int .u8 9])).modify 7 (lay #[.int .u8 0, .int .u8 1, .int .u8 56, .int .u8 2, .int .u8 57, .int .u8 49, .int .u8 28, .int .u8 3, .int .u8 61, .int .u8 58, .int .u8 42, .int .u8 50, .int .u8 38, .int .u8 29, .int .u8 17, .int .u8 4, .int .u8 62, .int .u8 47, .int .u8 59, .int .u8 36, .int .u8 45, .int .u8 43, .int .u8 51, .int .u8 22, .int .u8 53, .int .u8 39, .int .u8 33, .int .u8 30, .int .u8 24, .int .u8 18, .int .u8 12, .int .u8 5, .int .u8 63, .int .u8 55, .int .u8 48, .int .u8 27, .int .u8 60, .int .u8 41, .int .u8 37, .int .u8 16, .int .u8 46, .int .u8 35, .int .u8 44, .int .u8 21, .int .u8 52, .int .u8 32, .int .u8 23, .int .u8 11, .int .u8 54, .int .u8 26, .int .u8 40, .int .u8 15, .int .u8 34, .int .u8 20, .int .u8 31, .int .u8 10, .int .u8 25, .int .u8 14, .int .u8 19, .int .u8 9, .int .u8 13, .int .u8 8, .int .u8 7, .int .u8 6])).push (.cells #[.string ⟨#[105, 110, 118, 97, 108, 105, 100, 32, 115, 121, 110, 116, 97, 120]⟩] 152)).push (.cells #[.string ⟨#[118, 97, 108, 117, 101, 32, 111, 117, 116, 32, 111, 102, 32, 114, 97, 110, 103, 101]⟩] 152)) }
theorem laid_met (os : Os) : laidMet Tryd.prog Rows.scriptOwnRow.laid ((laidWorld os).forCall (fun _ _ => 0) ⟨#[], #[.slice none 0 0, .slice none 0 0], []⟩).memory := laidMet_of_run3 8 (by kernel_rfl) (by kernel_rfl) (by kernel_rfl)
theorem reads (os : Os) {H : Type} (enc : TypeId × Value → H) : ∃ places, DataW.whole enc Tryd.prog ((laidWorld os).forCall (fun _ _ => 0) ⟨#[], #[.slice none 0 0, .slice none 0 0], []⟩).memory Tryd.f5.params.toList Rows.scriptOwnSpec.vars false (#[.slice none 0 0, .slice none 0 0] : Array Value).toList 8 = some ([.nil, .nil], [], places) := ⟨[], by kernel_rfl⟩
set_option maxRecDepth 100000 in
theorem lifted (os : Os) (started : os.Started) (H : Type) (enc : TypeId × Value → H) (F : Stop.Interp) :
    ReturnsInHanded {} Tryd.checked os 5 .any ((OpenSpec.ofChange Rows.scriptOwnSpec).preRow enc Tryd.prog Tryd.f5 Rows.scriptOwnRow.domain false Rows.scriptOwnRow.laid) (((OpenSpec.ofChange Rows.scriptOwnSpec).at F).post enc Tryd.prog Tryd.f5 false true false false) := by
  obtain ⟨places, hx⟩ := reads os enc
  refine returnsInHanded_of_row (C := Tryd.checked) (s := (OpenSpec.ofChange Rows.scriptOwnSpec)) own started (by kernel_rfl) Tryd.func5
    (witness_row_at (enc := enc) (C := Tryd.checked) false (laidWorld os) #[.slice none 0 0, .slice none 0 0] rfl (by kernel_rfl) (by kernel_rfl) (by kernel_rfl)
      (OpenSpec.preRow_of_cond 8 hx (by kernel_rfl) (fun k hk => by cases hk) (by kernel_rfl) (laid_met os))) ?_
  intro W base args ds gs before hval hW _ _ hsz hL hSh _
  exact contract H enc W base args ds gs before hval hW hsz hSh hL
theorem said : Rows.ScriptOwnSaid :=
  OpenClaim.holds_of_cond 5 Tryd.f5 rfl rfl rfl rfl rfl rfl rfl ⟨rfl, rfl, rfl, rfl, rfl⟩ rfl rfl rfl rfl rfl (by kernel_rfl) Tryd.func5 (by kernel_rfl)
    (of_decide_eq_true (by kernel_rfl)) (by unfold Func.isWrapper; first | (rw [if_pos (by decide +kernel)]; kernel_rfl) | (rw [if_neg (by decide +kernel)]; exact ⟨rfl, rfl⟩))
    (fun os started H enc _ F => by rw [OpenClaim.pre_eq_preRow]; exact lifted os started H enc F)
theorem plain (f : FuncId) (fn : Func) (hf : Tryd.pinned.checked.prog.funcNamed Rows.scriptOwnRow.func = some f) (hfn : Tryd.pinned.checked.prog.funcs[f]? = some fn) :
    true = Tryd.pinned.checked.prog.looks [] ∧ ∀ (j : Nat) t, fn.params[j]? = some t → Tryd.pinned.checked.prog.wantsStandIn t = false := by
  obtain rfl : f = 5 := Option.some.inj ((show Tryd.prog.funcNamed Rows.scriptOwnRow.func = some 5 by kernel_rfl).symm.trans hf) |>.symm
  obtain rfl : fn = Tryd.f5 := (Option.some.inj (Tryd.func5.symm.trans hfn)).symm
  refine ⟨by kernel_rfl, fun j t ht => ?_⟩
  rw [Tryd.params5] at ht
  have hm := Array.mem_of_getElem? ht
  simp at hm
  rcases hm with rfl | rfl
  · exact (show Tryd.prog.wantsStandIn 22 = false by kernel_rfl)
  · exact (show Tryd.prog.wantsStandIn 39 = false by kernel_rfl)
theorem card : Rows.ScriptOwnCardSaid :=
  Claim7.holds_tied_plain_at .later [] _ _ _ _ said (fun _ h => by cases h) (by kernel_rfl) (fun _ h => by cases h) scriptOwn_row_tie rfl ⟨rfl, rfl⟩ (by kernel_rfl) rfl plain (by kernel_rfl)
end Go.Proofs.YtonnlkpmfmknlaaDoor.scriptOwn
namespace Go.Proofs.YtonnlkpmfmknlaaDoor
theorem scriptOwn_holds : Rows.ScriptOwnCardSaid := scriptOwn.card
end Go.Proofs.YtonnlkpmfmknlaaDoor
end
