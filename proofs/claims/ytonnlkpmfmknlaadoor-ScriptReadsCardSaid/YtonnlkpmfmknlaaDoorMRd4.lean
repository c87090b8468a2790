import Derived.Test.YtonnlkpmfmknlaaDoorMRd3
import Derived.IntWalk
section
/-
  rotaref19.Parse, walked.
-/
set_option linter.unusedVariables false
set_option linter.unusedSimpArgs false
namespace Go.Proofs.YtonnlkpmfmknlaaDoor.Q
open Go.RowKit
theorem lnR_size : ∀ (l cur : List UInt8), ∀ p ∈ lnR cur l, p.length ≤ cur.length + l.length
  | [], cur, p, h => by
    rw [lnR] at h
    split at h
    · cases h
    · rw [List.mem_singleton] at h; rw [h]; omega
  | b :: r, cur, p, h => by
    rw [lnR] at h
    split at h
    · rcases List.mem_cons.1 h with rfl | h
      · omega
      · have := lnR_size r [] p h; simp only [List.length_cons, List.length_nil] at *; omega
    · have := lnR_size r (cur ++ [b]) p h; simp only [List.length_append, List.length_cons, List.length_nil] at *; omega
theorem fld_size (q : UInt8 → Bool) : ∀ (l cur : List UInt8), ∀ p ∈ Fld.fld q cur l, p.length ≤ cur.length + l.length
  | [], cur, p, h => by
    rw [Fld.fld] at h
    split at h
    · cases h
    · rw [List.mem_singleton] at h; rw [h]; omega
  | b :: r, cur, p, h => by
    rw [Fld.fld] at h
    split at h
    · split at h
      · have := fld_size q r [] p h; simp only [List.length_cons, List.length_nil] at *; omega
      · rcases List.mem_cons.1 h with rfl | h
        · omega
        · have := fld_size q r [] p h; simp only [List.length_cons, List.length_nil] at *; omega
    · have := fld_size q r (cur ++ [b]) p h; simp only [List.length_append, List.length_cons, List.length_nil] at *; omega
theorem lines_nil (n : Nat) : ∀ (L : List (List UInt8)) (i : Nat) (st : List (List Int)) (hd : List Bool), lines19 n i st hd (L ++ [[]]) = lines19 n i st hd L
  | [], i, st, hd => by
    rw [List.nil_append, lines_skip n i st hd [] [] (.inl rfl)]; rfl
  | l :: r, i, st, hd => by
    rw [List.cons_append]
    by_cases h : Fld.fld (fun b => b.toNat == 32) [] l = [] ∨ l.head? = some 35
    · rw [lines_skip n i st hd l _ h, lines_skip n i st hd l r h, lines_nil n r]
    · rcases hs : step n st hd (Fld.fld (fun b => b.toNat == 32) [] l) with ⟨c, st', hd'⟩
      by_cases hc : c = 0
      · subst hc
        rw [lines_next n i st st' hd hd' l _ h hs, lines_next n i st st' hd hd' l r h hs, lines_nil n r]
      · rw [lines_bad n i c st st' hd hd' l _ h hs hc, lines_bad n i c st st' hd hd' l r h hs hc]
theorem lines_same (n : Nat) (st : List (List Int)) (hd : List Bool) (s : ByteArray) : lines19 n 0 st hd ((Hof.pcs s 10).map (·.data.toList)) = lines19 n 0 st hd (lnR [] s.data.toList) := by
  rw [pcs_spl]
  rcases lnR_spl s.data.toList [] with h | h
  · rw [h]
  · rw [h, lines_nil]
theorem sb_list (l : List (List UInt8)) : (l.map sb).map (·.data.toList) = l := by
  rw [List.map_map]
  conv => rhs; rw [← List.map_id l]
  exact List.map_congr_left (fun b _ => rfl)
end Go.Proofs.YtonnlkpmfmknlaaDoor.Q
namespace Go.Proofs.YtonnlkpmfmknlaaDoor.Hof
open Go.RowKit Go.Shelf Go.Proofs.YtonnlkpmfmknlaaDoorW.PrintWords Go.Proofs.YtonnlkpmfmknlaaDoorW.PrintLast Go.Proofs.YtonnlkpmfmknlaaDoorW.PrintMore Hctx GA
section
variable {o : Oper} {a : Act} {w0 W W1 : World} {es : List TypeId} {l : List (Nat × Array Value × TypeId)} {rows : List Row}
set_option maxRecDepth 100000 in
theorem mk22_run (n : Nat) (hn : n ≤ 16) {x y : Operand} (hop : o.op = .makeSlice 22 x y) (hx : a.eval x = .int .i64 (n : Int)) (hy : a.eval y = .int .i64 (n : Int)) :
    (execOp a.eval o).run Tryd.prog W = .ok (.value (.slice (some ⟨W.heap.size, 0, none⟩) n n)) (W.alloc (.cells (cellsL (List.replicate (2 * n) (.slice none 0 0, []))) 32)) := by
  obtain ⟨i, hi⟩ : ∃ i, Tryd.prog.info? 32 = some i := Option.isSome_iff_exists.1 (by kernel_rfl)
  have hz : i.zero = some (.agg #[.slice none 0 0, .slice none 0 0]) := by
    have : (Tryd.prog.info? 32).bind (·.zero) = some (.agg #[.slice none 0 0, .slice none 0 0]) := by kernel_rfl
    rw [hi] at this; exact this
  have hs : i.size = 2 := by
    have : (Tryd.prog.info? 32).map (·.size) = some 2 := by kernel_rfl
    rw [hi] at this; exact Option.some.inj this
  have hb : i.bytes = 48 := by
    have : (Tryd.prog.info? 32).map (·.bytes) = some 48 := by kernel_rfl
    rw [hi] at this; exact Option.some.inj this
  have hr := run_make (P := Tryd.prog) W 22 32 i _ (by kernel_rfl) hi hz .i64 .i64 n n (by omega) (Int.le_refl _) (by rw [hb]; omega) (by omega)
  rw [hs] at hr
  simp only [Int.toNat_natCast] at hr
  have e : Value.cells (.agg #[.slice none 0 0, .slice none 0 0]) = #[.slice none 0 0, .slice none 0 0] := by rfl
  rw [e, made_nil] at hr
  simp [execOp, hop, hx, hy, hr, Result.andThen]
theorem made_flags (n : Nat) : madeCells #[.bool false] (n * 1) = bc (List.replicate n false) := by
  apply Array.ext_getElem?
  intro j
  unfold madeCells bc
  by_cases hj : j < n
  · simp [hj, Nat.mod_one]
  · simp [hj]
set_option maxRecDepth 100000 in
theorem mk57_run (n : Nat) (hn : n ≤ 16) {x y : Operand} (hop : o.op = .makeSlice 57 x y) (hx : a.eval x = .int .i64 (n : Int)) (hy : a.eval y = .int .i64 (n : Int)) :
    (execOp a.eval o).run Tryd.prog W = .ok (.value (.slice (some ⟨W.heap.size, 0, none⟩) n n)) (W.alloc (.cells (bc (List.replicate n false)) 4)) := by
  obtain ⟨i, hi⟩ : ∃ i, Tryd.prog.info? 4 = some i := Option.isSome_iff_exists.1 (by kernel_rfl)
  have hz : i.zero = some (.bool false) := by
    have : (Tryd.prog.info? 4).bind (·.zero) = some (.bool false) := by kernel_rfl
    rw [hi] at this; exact this
  have hs : i.size = 1 := by
    have : (Tryd.prog.info? 4).map (·.size) = some 1 := by kernel_rfl
    rw [hi] at this; exact Option.some.inj this
  have hb : i.bytes = 1 := by
    have : (Tryd.prog.info? 4).map (·.bytes) = some 1 := by kernel_rfl
    rw [hi] at this; exact Option.some.inj this
  have hr := run_make (P := Tryd.prog) W 57 4 i _ (by kernel_rfl) hi hz .i64 .i64 n n (by omega) (Int.le_refl _) (by rw [hb]; omega) (by omega)
  rw [hs] at hr
  simp only [Int.toNat_natCast] at hr
  have e : Value.cells (.bool false) = #[.bool false] := by rfl
  rw [e, made_flags] at hr
  simp [execOp, hop, hx, hy, hr, Result.andThen]
/-- A row of strings that a callee made, a box. -/
theorem strs_box (M : Mem es w0 W l rows) (he : 9 ∉ es) {v : Value} {xs : List ByteArray} (hR : Kd.R Kd.string 9 W1 W.heap.size (fun _ => True) v xs) (hb : Below W.heap.size W W1) (hne : xs ≠ []) :
    ∃ g c cur, v = .slice (some ⟨g, 0, none⟩) xs.length c ∧ Mem es w0 W1 (l ++ [(g, cur, 9)]) rows ∧ ∀ (i : Nat) p, xs[i]? = some p → cur[i]? = some (.string p) := by
  obtain ⟨_, inner, ⟨hl, hcase⟩, hreps⟩ := hR
  rcases hcase with ⟨_, h0⟩ | ⟨g, cap, cur, rfl, hg, hbk, h1, h2, h3, h4⟩
  · exact absurd (List.length_eq_zero_iff.1 h0) hne
  · refine ⟨g, cap, cur, rfl, boxGe M hg hbk hb he, fun i p hp => ?_⟩
    have hi := (List.getElem?_eq_some_iff.1 hp).1
    have hm : (inner.drop (i * 1)).take 1 = [.string p] := hreps.2 i p hp
    have h5 : inner[i]? = some (.string p) := by
      have := congrArg (fun l => l[0]?) hm
      simpa [List.getElem?_take, List.getElem?_drop] using this
    rw [← h4, List.getElem?_take, if_pos (by show i < xs.length * 1; omega)] at h5
    simpa using h5
end
/-- What Parse hands back. -/
theorem choices_ownM {w0 W : World} {gr gl n : Nat} {x : Array Value} {L : List (Value × List Int)} {ty : TypeId} {l : List (Nat × Array Value × TypeId)} (M : Mem [36, 2] w0 W ((gr, x, ty) :: (gl, cellsL L, 32) :: l) (rowsOf true L)) (hL : L.length = 2 * n) (hn : n ≤ 16) :
    k32.R 32 W w0.heap.size (fun _ => True) (.slice (some ⟨gl, 0, none⟩) n n) (pairs (L.map (·.2))) := by
  have hb := M.at 1 (g := gl) (cs := cellsL L) (t := 32) rfl
  have hge := M.ge 1 (g := gl) (cs := cellsL L) (t := 32) rfl
  have hlen : (pairs (L.map (·.2))).length = n := pairs_len _ n (by rw [List.length_map]; exact hL)
  refine ⟨fun _ _ => trivial, L.map (·.1), ?_, reps_pairs L n hL (fun i p q hp hq => ?_)⟩
  · rw [hlen]
    refine ⟨by rw [List.length_map, hL]; show 2 * n = n * 2; omega, .inr ⟨gl, n, cellsL L, rfl, hge, hb, Nat.le_refl _, by unfold maxLen; omega, by unfold cellsL; rw [List.size_toArray, List.length_map, hL]; show 2 * n = n * 2; omega, ?_⟩⟩
    unfold cellsL
    rw [List.take_of_length_le]
    · show n * 2 ≥ _
      rw [List.length_map, hL]; omega
  · have hp1 : (rowsOf true L)[2 * i]? = some (mkR true p) := by rw [rowsOf_get, hp, show par true (2 * i) = true by unfold par; rw [if_pos (by omega)]]; rfl
    have hq1 : (rowsOf true L)[2 * i + 1]? = some (mkR false q) := by rw [rowsOf_get, hq, show par true (2 * i + 1) = false by unfold par; rw [if_neg (by omega)]; rfl]; rfl
    have o1 : (Kd.int .u32).R 36 W w0.heap.size (fun k => True ∧ some k ≠ some gl) p.1 p.2 := Kd.R_mono (Kd.R_types (M.owns _ _ hp1) hb (fun q hq he => by
      have := mkR_typ true p q hq
      rw [he] at this; simp at this)) (fun k hk => ⟨trivial, fun e => hk.2 (by injection e)⟩)
    have o2 : (Kd.int .i64).R 2 W w0.heap.size (fun k => True ∧ some k ≠ some gl) q.1 q.2 := Kd.R_mono (Kd.R_types (M.owns _ _ hq1) hb (fun q' hq' he => by
      have := mkR_typ false q q' hq'
      rw [he] at this; simp at this)) (fun k hk => ⟨trivial, fun e => hk.2 (by injection e)⟩)
    exact k32_mkM W _ _ ⟨p.2, q.2⟩ o1 o2
/-- rotaref19.Parse, as data. -/
def rparse19 (n : Int) (s : ByteArray) : List (List Int) × Int × Int :=
  if n < 1 ∨ 16 < n then ([], 1, 0) else if 262144 < s.size then ([], 2, 0) else
    Q.lines19 n.toNat 0 (List.replicate (2 * n.toNat) []) (List.replicate (2 * n.toNat) false) (Q.lnR [] s.data.toList)
theorem rparse_same (n : Int) (s : ByteArray) : rparse19 n s = parse19 n s := by
  unfold rparse19 parse19
  rw [Q.lines_same]
theorem had_zero (n : Nat) : HadS n (List.replicate n false) (List.replicate n false) (List.replicate (2 * n) false) := by
  have key : ∀ k j, (List.replicate k false).getD j false = false := fun k j => by rw [List.getD_eq_getElem?_getD, List.getElem?_replicate]; split <;> rfl
  exact ⟨List.length_replicate, List.length_replicate, List.length_replicate, fun d _ => by rw [key, key], fun d _ => by rw [key, key]⟩
theorem calls_to {P : Program} {f : FuncId} {xs ys : Array Value} {w : World} {Q R : Ending → World → Prop} (h : Calls P f xs w Q) (e : xs = ys) (hq : ∀ e w, Q e w → R e w) : Calls P f ys w R := by
  subst e; exact h.mono hq
set_option maxHeartbeats 8000000 in
set_option maxRecDepth 100000 in
theorem rparse_calls (d : Int) (s : ByteArray) (w : World) :
    Calls Tryd.prog 11 #[.int .i64 d, .string s] w (Parsed (rparse19 d s) w) := by
  by_cases h1 : d < 1
  · have e1 : decide (d < 1) = true := decide_eq_true h1
    have HR := Lib.hid (show rparse19 d s = ([], 1, 0) by unfold rparse19; rw [if_pos (.inl h1)])
    clear h1
    go_enter Tryd.func11, Tryd.ntmps11
    go_wp2
    go_ret3
    rw [HR.out]
    exact parsed_nil 1 0 (Below.refl _ _)
  by_cases h2 : 16 < d
  · have e1 : decide (d < 1) = false := decide_eq_false h1
    have e2 : decide (d > 16) = true := decide_eq_true h2
    have e3 : decide (16 < d) = true := decide_eq_true h2
    have HR := Lib.hid (show rparse19 d s = ([], 1, 0) by unfold rparse19; rw [if_pos (.inr h2)])
    clear h1 h2
    go_enter Tryd.func11, Tryd.ntmps11
    go_wp2
    go_ret3
    rw [HR.out]
    exact parsed_nil 1 0 (Below.refl _ _)
  have e1 : decide (d < 1) = false := decide_eq_false h1
  have e2 : decide (d > 16) = false := decide_eq_false h2
  have e3 : decide (16 < d) = false := decide_eq_false h2
  by_cases h3 : 262144 < s.size
  · have HR := Lib.hid (show rparse19 d s = ([], 2, 0) by unfold rparse19; rw [if_neg (by omega), if_pos h3])
    have e4 : decide ((s.size : Int) > 262144) = true := decide_eq_true (by omega)
    clear h1 h2 h3
    go_enter Tryd.func11, Tryd.ntmps11
    go_wp2
    go_ret3
    rw [HR.out]
    exact parsed_nil 2 0 (Below.refl _ _)
  have e4 : decide ((s.size : Int) > 262144) = false := decide_eq_false (by omega)
  obtain ⟨n, rfl⟩ : ∃ n : Nat, d = (n : Int) := ⟨d.toNat, by omega⟩
  have HN := Lib.hid (show n ≤ 16 by omega)
  have HS := Lib.hid (show s.size ≤ 262144 by omega)
  have HR := Lib.hid (show rparse19 n s = Q.lines19 n 0 (List.replicate (2 * n) []) (List.replicate (2 * n) false) (Q.lnR [] s.data.toList) by unfold rparse19; rw [if_neg (by omega), if_neg (by omega), Int.toNat_natCast])
  clear h1 h2 h3
  rw [HR.out]
  clear HR
  generalize hres : Q.lines19 n 0 (List.replicate (2 * n) []) (List.replicate (2 * n) false) (Q.lnR [] s.data.toList) = res
  have HRS := Lib.hid hres
  clear hres
  have M0 := Aside0.mk (Mem.start [36, 2] w)
  go_enter Tryd.func11, Tryd.ntmps11
  go_wp2_with fail
  refine dJoin (σ := Nat × Nat × Nat × Nat) (fun s => [(21, .int .i64 (n : Int)), (22, .slice (some ⟨s.2.1, 0, none⟩) n n), (23, .int .i64 (n : Int)), (24, .slice (some ⟨s.2.2.1, 0, none⟩) n n), (25, .int .i64 (n : Int)), (26, .slice (some ⟨s.2.2.2, 0, none⟩) n n), (27, .agg #[.slice (some ⟨s.2.1, 0, none⟩) n n, .slice (some ⟨s.2.2.1, 0, none⟩) n n, .slice (some ⟨s.2.2.2, 0, none⟩) n n]), (7, .pointer (some ⟨s.1, 0, none⟩))]) (fun s w' => Aside0 (Mem [36, 2] w w' [(s.1, #[.slice (some ⟨s.2.1, 0, none⟩) n n, .slice (some ⟨s.2.2.1, 0, none⟩) n n, .slice (some ⟨s.2.2.2, 0, none⟩) n n], 59), (s.2.1, (cellsL (List.replicate (2 * n) (.slice none 0 0, []))), 32), (s.2.2.1, (bc (List.replicate n false)), 4), (s.2.2.2, (bc (List.replicate n false)), 4)] [])) ?_ (fun hK => ?_)
  rotate_left
  · simp only [putAll, Act.put, List.setIfInBounds_toArray, List.set_cons_zero, List.set_cons_succ] at hK
    refine dStart [8] [] M0 (fun w' MD => ?_)
    clear M0
    refine dP 0 21 (.int .i64 (n : Int)) ?_
    simp only [Act.put, List.setIfInBounds_toArray, List.set_cons_zero, List.set_cons_succ]
    refine dP 2 23 (.int .i64 (n : Int)) ?_
    simp only [Act.put, List.setIfInBounds_toArray, List.set_cons_zero, List.set_cons_succ]
    refine dP 4 25 (.int .i64 (n : Int)) ?_
    simp only [Act.put, List.setIfInBounds_toArray, List.set_cons_zero, List.set_cons_succ]
    refine dR [1, 3, 5, 7] ?_
    refine qMk MD 1 22 n (cellsL (List.replicate (2 * n) (.slice none 0 0, []))) 32 ?_ ?_ (mk22_run n HN.out rfl rfl rfl)
    · clear MD
      intro gl w1 N1
      simp only [Act.put, List.setIfInBounds_toArray, List.set_cons_zero, List.set_cons_succ]
      refine dR [3, 5, 7] ?_
      refine qMk N1 3 24 n (bc (List.replicate n false)) 4 ?_ ?_ (mk57_run n HN.out rfl rfl rfl)
      · clear N1
        intro gs w2 N2
        simp only [Act.put, List.setIfInBounds_toArray, List.set_cons_zero, List.set_cons_succ]
        refine dR [5, 7] ?_
        refine qMk N2 5 26 n (bc (List.replicate n false)) 4 ?_ ?_ (mk57_run n HN.out rfl rfl rfl)
        · clear N2
          intro gi w3 N3
          simp only [Act.put, List.setIfInBounds_toArray, List.set_cons_zero, List.set_cons_succ]
          refine dP 6 27 (.agg #[.slice (some ⟨gl, 0, none⟩) n n, .slice (some ⟨gs, 0, none⟩) n n, .slice (some ⟨gi, 0, none⟩) n n]) ?_
          simp only [Act.put, List.setIfInBounds_toArray, List.set_cons_zero, List.set_cons_succ]
          refine dR [7] ?_
          refine qA N3 7 7 59 #[.slice none 0 0, .slice none 0 0, .slice none 0 0] ?_ ?_
          · clear N3
            intro gr w4 N4
            simp only [Act.put, List.setIfInBounds_toArray, List.set_cons_zero, List.set_cons_succ]
            refine dR [8] ?_
            refine qS N4 8 59 7 3 #[.slice (some ⟨gl, 0, none⟩) n n, .slice (some ⟨gs, 0, none⟩) n n, .slice (some ⟨gi, 0, none⟩) n n] ?_ AllReadyL.nil
            clear N4
            intro w_ N5
            refine dDone ?_
            exact hK (gr, gl, gs, gi) _ ⟨Mem.perm N5.out (List.Perm.trans (List.Perm.trans (List.Perm.cons _ (List.Perm.cons _ (List.Perm.swap _ _ _))) (List.Perm.cons _ (List.Perm.swap _ _ _))) (List.Perm.swap _ _ _))⟩
          exact AllReadyL.nil
        refine qA N2 7 7 59 #[.slice none 0 0, .slice none 0 0, .slice none 0 0] ?_ ?_
        · clear N2
          intro gr w6 N6
          simp only [Act.put, List.setIfInBounds_toArray, List.set_cons_zero, List.set_cons_succ]
          refine dR [5] ?_
          refine qMk N6 5 26 n (bc (List.replicate n false)) 4 ?_ ?_ (mk57_run n HN.out rfl rfl rfl)
          · clear N6
            intro gi w7 N7
            simp only [Act.put, List.setIfInBounds_toArray, List.set_cons_zero, List.set_cons_succ]
            refine dP 6 27 (.agg #[.slice (some ⟨gl, 0, none⟩) n n, .slice (some ⟨gs, 0, none⟩) n n, .slice (some ⟨gi, 0, none⟩) n n]) ?_
            simp only [Act.put, List.setIfInBounds_toArray, List.set_cons_zero, List.set_cons_succ]
            refine dR [8] ?_
            refine qS N7 8 59 7 2 #[.slice (some ⟨gl, 0, none⟩) n n, .slice (some ⟨gs, 0, none⟩) n n, .slice (some ⟨gi, 0, none⟩) n n] ?_ AllReadyL.nil
            clear N7
            intro w_ N8
            refine dDone ?_
            exact hK (gr, gl, gs, gi) _ ⟨Mem.perm N8.out (List.Perm.trans (List.Perm.cons _ (List.Perm.swap _ _ _)) (List.Perm.swap _ _ _))⟩
          exact AllReadyL.nil
        exact AllReadyL.nil
      refine qMk N1 5 26 n (bc (List.replicate n false)) 4 ?_ ?_ (mk57_run n HN.out rfl rfl rfl)
      · clear N1
        intro gi w9 N9
        simp only [Act.put, List.setIfInBounds_toArray, List.set_cons_zero, List.set_cons_succ]
        refine dR [3, 7] ?_
        refine qMk N9 3 24 n (bc (List.replicate n false)) 4 ?_ ?_ (mk57_run n HN.out rfl rfl rfl)
        · clear N9
          intro gs w10 N10
          simp only [Act.put, List.setIfInBounds_toArray, List.set_cons_zero, List.set_cons_succ]
          refine dP 6 27 (.agg #[.slice (some ⟨gl, 0, none⟩) n n, .slice (some ⟨gs, 0, none⟩) n n, .slice (some ⟨gi, 0, none⟩) n n]) ?_
          simp only [Act.put, List.setIfInBounds_toArray, List.set_cons_zero, List.set_cons_succ]
          refine dR [7] ?_
          refine qA N10 7 7 59 #[.slice none 0 0, .slice none 0 0, .slice none 0 0] ?_ ?_
          · clear N10
            intro gr w11 N11
            simp only [Act.put, List.setIfInBounds_toArray, List.set_cons_zero, List.set_cons_succ]
            refine dR [8] ?_
            refine qS N11 8 59 7 3 #[.slice (some ⟨gl, 0, none⟩) n n, .slice (some ⟨gs, 0, none⟩) n n, .slice (some ⟨gi, 0, none⟩) n n] ?_ AllReadyL.nil
            clear N11
            intro w_ N12
            refine dDone ?_
            exact hK (gr, gl, gs, gi) _ ⟨Mem.perm N12.out (List.Perm.trans (List.Perm.trans (List.Perm.trans (List.Perm.cons _ (List.Perm.cons _ (List.Perm.swap _ _ _))) (List.Perm.cons _ (List.Perm.swap _ _ _))) (List.Perm.swap _ _ _)) (List.Perm.cons _ (List.Perm.cons _ (List.Perm.swap _ _ _))))⟩
          exact AllReadyL.nil
        refine qA N9 7 7 59 #[.slice none 0 0, .slice none 0 0, .slice none 0 0] ?_ ?_
        · clear N9
          intro gr w13 N13
          simp only [Act.put, List.setIfInBounds_toArray, List.set_cons_zero, List.set_cons_succ]
          refine dR [3] ?_
          refine qMk N13 3 24 n (bc (List.replicate n false)) 4 ?_ ?_ (mk57_run n HN.out rfl rfl rfl)
          · clear N13
            intro gs w14 N14
            simp only [Act.put, List.setIfInBounds_toArray, List.set_cons_zero, List.set_cons_succ]
            refine dP 6 27 (.agg #[.slice (some ⟨gl, 0, none⟩) n n, .slice (some ⟨gs, 0, none⟩) n n, .slice (some ⟨gi, 0, none⟩) n n]) ?_
            simp only [Act.put, List.setIfInBounds_toArray, List.set_cons_zero, List.set_cons_succ]
            refine dR [8] ?_
            refine qS N14 8 59 7 2 #[.slice (some ⟨gl, 0, none⟩) n n, .slice (some ⟨gs, 0, none⟩) n n, .slice (some ⟨gi, 0, none⟩) n n] ?_ AllReadyL.nil
            clear N14
            intro w_ N15
            refine dDone ?_
            exact hK (gr, gl, gs, gi) _ ⟨Mem.perm N15.out (List.Perm.trans (List.Perm.trans (List.Perm.cons _ (List.Perm.swap _ _ _)) (List.Perm.swap _ _ _)) (List.Perm.cons _ (List.Perm.cons _ (List.Perm.swap _ _ _))))⟩
          exact AllReadyL.nil
        exact AllReadyL.nil
      refine qA N1 7 7 59 #[.slice none 0 0, .slice none 0 0, .slice none 0 0] ?_ ?_
      · clear N1
        intro gr w16 N16
        simp only [Act.put, List.setIfInBounds_toArray, List.set_cons_zero, List.set_cons_succ]
        refine dR [3, 5] ?_
        refine qMk N16 3 24 n (bc (List.replicate n false)) 4 ?_ ?_ (mk57_run n HN.out rfl rfl rfl)
        · clear N16
          intro gs w17 N17
          simp only [Act.put, List.setIfInBounds_toArray, List.set_cons_zero, List.set_cons_succ]
          refine dR [5] ?_
          refine qMk N17 5 26 n (bc (List.replicate n false)) 4 ?_ ?_ (mk57_run n HN.out rfl rfl rfl)
          · clear N17
            intro gi w18 N18
            simp only [Act.put, List.setIfInBounds_toArray, List.set_cons_zero, List.set_cons_succ]
            refine dP 6 27 (.agg #[.slice (some ⟨gl, 0, none⟩) n n, .slice (some ⟨gs, 0, none⟩) n n, .slice (some ⟨gi, 0, none⟩) n n]) ?_
            simp only [Act.put, List.setIfInBounds_toArray, List.set_cons_zero, List.set_cons_succ]
            refine dR [8] ?_
            refine qS N18 8 59 7 1 #[.slice (some ⟨gl, 0, none⟩) n n, .slice (some ⟨gs, 0, none⟩) n n, .slice (some ⟨gi, 0, none⟩) n n] ?_ AllReadyL.nil
            clear N18
            intro w_ N19
            refine dDone ?_
            exact hK (gr, gl, gs, gi) _ ⟨Mem.perm N19.out (List.Perm.swap _ _ _)⟩
          exact AllReadyL.nil
        refine qMk N16 5 26 n (bc (List.replicate n false)) 4 ?_ ?_ (mk57_run n HN.out rfl rfl rfl)
        · clear N16
          intro gi w20 N20
          simp only [Act.put, List.setIfInBounds_toArray, List.set_cons_zero, List.set_cons_succ]
          refine dR [3] ?_
          refine qMk N20 3 24 n (bc (List.replicate n false)) 4 ?_ ?_ (mk57_run n HN.out rfl rfl rfl)
          · clear N20
            intro gs w21 N21
            simp only [Act.put, List.setIfInBounds_toArray, List.set_cons_zero, List.set_cons_succ]
            refine dP 6 27 (.agg #[.slice (some ⟨gl, 0, none⟩) n n, .slice (some ⟨gs, 0, none⟩) n n, .slice (some ⟨gi, 0, none⟩) n n]) ?_
            simp only [Act.put, List.setIfInBounds_toArray, List.set_cons_zero, List.set_cons_succ]
            refine dR [8] ?_
            refine qS N21 8 59 7 1 #[.slice (some ⟨gl, 0, none⟩) n n, .slice (some ⟨gs, 0, none⟩) n n, .slice (some ⟨gi, 0, none⟩) n n] ?_ AllReadyL.nil
            clear N21
            intro w_ N22
            refine dDone ?_
            exact hK (gr, gl, gs, gi) _ ⟨Mem.perm N22.out (List.Perm.trans (List.Perm.swap _ _ _) (List.Perm.cons _ (List.Perm.cons _ (List.Perm.swap _ _ _))))⟩
          exact AllReadyL.nil
        exact AllReadyL.nil
      exact AllReadyL.nil
    refine qMk MD 3 24 n (bc (List.replicate n false)) 4 ?_ ?_ (mk57_run n HN.out rfl rfl rfl)
    · clear MD
      intro gs w23 N23
      simp only [Act.put, List.setIfInBounds_toArray, List.set_cons_zero, List.set_cons_succ]
      refine dR [1, 5, 7] ?_
      refine qMk N23 1 22 n (cellsL (List.replicate (2 * n) (.slice none 0 0, []))) 32 ?_ ?_ (mk22_run n HN.out rfl rfl rfl)
      · clear N23
        intro gl w24 N24
        simp only [Act.put, List.setIfInBounds_toArray, List.set_cons_zero, List.set_cons_succ]
        refine dR [5, 7] ?_
        refine qMk N24 5 26 n (bc (List.replicate n false)) 4 ?_ ?_ (mk57_run n HN.out rfl rfl rfl)
        · clear N24
          intro gi w25 N25
          simp only [Act.put, List.setIfInBounds_toArray, List.set_cons_zero, List.set_cons_succ]
          refine dP 6 27 (.agg #[.slice (some ⟨gl, 0, none⟩) n n, .slice (some ⟨gs, 0, none⟩) n n, .slice (some ⟨gi, 0, none⟩) n n]) ?_
          simp only [Act.put, List.setIfInBounds_toArray, List.set_cons_zero, List.set_cons_succ]
          refine dR [7] ?_
          refine qA N25 7 7 59 #[.slice none 0 0, .slice none 0 0, .slice none 0 0] ?_ ?_
          · clear N25
            intro gr w26 N26
            simp only [Act.put, List.setIfInBounds_toArray, List.set_cons_zero, List.set_cons_succ]
            refine dR [8] ?_
            refine qS N26 8 59 7 3 #[.slice (some ⟨gl, 0, none⟩) n n, .slice (some ⟨gs, 0, none⟩) n n, .slice (some ⟨gi, 0, none⟩) n n] ?_ AllReadyL.nil
            clear N26
            intro w_ N27
            refine dDone ?_
            exact hK (gr, gl, gs, gi) _ ⟨Mem.perm N27.out (List.Perm.trans (List.Perm.trans (List.Perm.trans (List.Perm.cons _ (List.Perm.cons _ (List.Perm.swap _ _ _))) (List.Perm.cons _ (List.Perm.swap _ _ _))) (List.Perm.swap _ _ _)) (List.Perm.cons _ (List.Perm.swap _ _ _)))⟩
          exact AllReadyL.nil
        refine qA N24 7 7 59 #[.slice none 0 0, .slice none 0 0, .slice none 0 0] ?_ ?_
        · clear N24
          intro gr w28 N28
          simp only [Act.put, List.setIfInBounds_toArray, List.set_cons_zero, List.set_cons_succ]
          refine dR [5] ?_
          refine qMk N28 5 26 n (bc (List.replicate n false)) 4 ?_ ?_ (mk57_run n HN.out rfl rfl rfl)
          · clear N28
            intro gi w29 N29
            simp only [Act.put, List.setIfInBounds_toArray, List.set_cons_zero, List.set_cons_succ]
            refine dP 6 27 (.agg #[.slice (some ⟨gl, 0, none⟩) n n, .slice (some ⟨gs, 0, none⟩) n n, .slice (some ⟨gi, 0, none⟩) n n]) ?_
            simp only [Act.put, List.setIfInBounds_toArray, List.set_cons_zero, List.set_cons_succ]
            refine dR [8] ?_
            refine qS N29 8 59 7 2 #[.slice (some ⟨gl, 0, none⟩) n n, .slice (some ⟨gs, 0, none⟩) n n, .slice (some ⟨gi, 0, none⟩) n n] ?_ AllReadyL.nil
            clear N29
            intro w_ N30
            refine dDone ?_
            exact hK (gr, gl, gs, gi) _ ⟨Mem.perm N30.out (List.Perm.trans (List.Perm.trans (List.Perm.cons _ (List.Perm.swap _ _ _)) (List.Perm.swap _ _ _)) (List.Perm.cons _ (List.Perm.swap _ _ _)))⟩
          exact AllReadyL.nil
        exact AllReadyL.nil
      refine qMk N23 5 26 n (bc (List.replicate n false)) 4 ?_ ?_ (mk57_run n HN.out rfl rfl rfl)
      · clear N23
        intro gi w31 N31
        simp only [Act.put, List.setIfInBounds_toArray, List.set_cons_zero, List.set_cons_succ]
        refine dR [1, 7] ?_
        refine qMk N31 1 22 n (cellsL (List.replicate (2 * n) (.slice none 0 0, []))) 32 ?_ ?_ (mk22_run n HN.out rfl rfl rfl)
        · clear N31
          intro gl w32 N32
          simp only [Act.put, List.setIfInBounds_toArray, List.set_cons_zero, List.set_cons_succ]
          refine dP 6 27 (.agg #[.slice (some ⟨gl, 0, none⟩) n n, .slice (some ⟨gs, 0, none⟩) n n, .slice (some ⟨gi, 0, none⟩) n n]) ?_
          simp only [Act.put, List.setIfInBounds_toArray, List.set_cons_zero, List.set_cons_succ]
          refine dR [7] ?_
          refine qA N32 7 7 59 #[.slice none 0 0, .slice none 0 0, .slice none 0 0] ?_ ?_
          · clear N32
            intro gr w33 N33
            simp only [Act.put, List.setIfInBounds_toArray, List.set_cons_zero, List.set_cons_succ]
            refine dR [8] ?_
            refine qS N33 8 59 7 3 #[.slice (some ⟨gl, 0, none⟩) n n, .slice (some ⟨gs, 0, none⟩) n n, .slice (some ⟨gi, 0, none⟩) n n] ?_ AllReadyL.nil
            clear N33
            intro w_ N34
            refine dDone ?_
            exact hK (gr, gl, gs, gi) _ ⟨Mem.perm N34.out (List.Perm.trans (List.Perm.trans (List.Perm.trans (List.Perm.trans (List.Perm.cons _ (List.Perm.cons _ (List.Perm.swap _ _ _))) (List.Perm.cons _ (List.Perm.swap _ _ _))) (List.Perm.swap _ _ _)) (List.Perm.cons _ (List.Perm.cons _ (List.Perm.swap _ _ _)))) (List.Perm.cons _ (List.Perm.swap _ _ _)))⟩
          exact AllReadyL.nil
        refine qA N31 7 7 59 #[.slice none 0 0, .slice none 0 0, .slice none 0 0] ?_ ?_
        · clear N31
          intro gr w35 N35
          simp only [Act.put, List.setIfInBounds_toArray, List.set_cons_zero, List.set_cons_succ]
          refine dR [1] ?_
          refine qMk N35 1 22 n (cellsL (List.replicate (2 * n) (.slice none 0 0, []))) 32 ?_ ?_ (mk22_run n HN.out rfl rfl rfl)
          · clear N35
            intro gl w36 N36
            simp only [Act.put, List.setIfInBounds_toArray, List.set_cons_zero, List.set_cons_succ]
            refine dP 6 27 (.agg #[.slice (some ⟨gl, 0, none⟩) n n, .slice (some ⟨gs, 0, none⟩) n n, .slice (some ⟨gi, 0, none⟩) n n]) ?_
            simp only [Act.put, List.setIfInBounds_toArray, List.set_cons_zero, List.set_cons_succ]
            refine dR [8] ?_
            refine qS N36 8 59 7 2 #[.slice (some ⟨gl, 0, none⟩) n n, .slice (some ⟨gs, 0, none⟩) n n, .slice (some ⟨gi, 0, none⟩) n n] ?_ AllReadyL.nil
            clear N36
            intro w_ N37
            refine dDone ?_
            exact hK (gr, gl, gs, gi) _ ⟨Mem.perm N37.out (List.Perm.trans (List.Perm.trans (List.Perm.trans (List.Perm.cons _ (List.Perm.swap _ _ _)) (List.Perm.swap _ _ _)) (List.Perm.cons _ (List.Perm.cons _ (List.Perm.swap _ _ _)))) (List.Perm.cons _ (List.Perm.swap _ _ _)))⟩
          exact AllReadyL.nil
        exact AllReadyL.nil
      refine qA N23 7 7 59 #[.slice none 0 0, .slice none 0 0, .slice none 0 0] ?_ ?_
      · clear N23
        intro gr w38 N38
        simp only [Act.put, List.setIfInBounds_toArray, List.set_cons_zero, List.set_cons_succ]
        refine dR [1, 5] ?_
        refine qMk N38 1 22 n (cellsL (List.replicate (2 * n) (.slice none 0 0, []))) 32 ?_ ?_ (mk22_run n HN.out rfl rfl rfl)
        · clear N38
          intro gl w39 N39
          simp only [Act.put, List.setIfInBounds_toArray, List.set_cons_zero, List.set_cons_succ]
          refine dR [5] ?_
          refine qMk N39 5 26 n (bc (List.replicate n false)) 4 ?_ ?_ (mk57_run n HN.out rfl rfl rfl)
          · clear N39
            intro gi w40 N40
            simp only [Act.put, List.setIfInBounds_toArray, List.set_cons_zero, List.set_cons_succ]
            refine dP 6 27 (.agg #[.slice (some ⟨gl, 0, none⟩) n n, .slice (some ⟨gs, 0, none⟩) n n, .slice (some ⟨gi, 0, none⟩) n n]) ?_
            simp only [Act.put, List.setIfInBounds_toArray, List.set_cons_zero, List.set_cons_succ]
            refine dR [8] ?_
            refine qS N40 8 59 7 1 #[.slice (some ⟨gl, 0, none⟩) n n, .slice (some ⟨gs, 0, none⟩) n n, .slice (some ⟨gi, 0, none⟩) n n] ?_ AllReadyL.nil
            clear N40
            intro w_ N41
            refine dDone ?_
            exact hK (gr, gl, gs, gi) _ ⟨Mem.perm N41.out (List.Perm.trans (List.Perm.swap _ _ _) (List.Perm.cons _ (List.Perm.swap _ _ _)))⟩
          exact AllReadyL.nil
        refine qMk N38 5 26 n (bc (List.replicate n false)) 4 ?_ ?_ (mk57_run n HN.out rfl rfl rfl)
        · clear N38
          intro gi w42 N42
          simp only [Act.put, List.setIfInBounds_toArray, List.set_cons_zero, List.set_cons_succ]
          refine dR [1] ?_
          refine qMk N42 1 22 n (cellsL (List.replicate (2 * n) (.slice none 0 0, []))) 32 ?_ ?_ (mk22_run n HN.out rfl rfl rfl)
          · clear N42
            intro gl w43 N43
            simp only [Act.put, List.setIfInBounds_toArray, List.set_cons_zero, List.set_cons_succ]
            refine dP 6 27 (.agg #[.slice (some ⟨gl, 0, none⟩) n n, .slice (some ⟨gs, 0, none⟩) n n, .slice (some ⟨gi, 0, none⟩) n n]) ?_
            simp only [Act.put, List.setIfInBounds_toArray, List.set_cons_zero, List.set_cons_succ]
            refine dR [8] ?_
            refine qS N43 8 59 7 1 #[.slice (some ⟨gl, 0, none⟩) n n, .slice (some ⟨gs, 0, none⟩) n n, .slice (some ⟨gi, 0, none⟩) n n] ?_ AllReadyL.nil
            clear N43
            intro w_ N44
            refine dDone ?_
            exact hK (gr, gl, gs, gi) _ ⟨Mem.perm N44.out (List.Perm.trans (List.Perm.trans (List.Perm.swap _ _ _) (List.Perm.cons _ (List.Perm.cons _ (List.Perm.swap _ _ _)))) (List.Perm.cons _ (List.Perm.swap _ _ _)))⟩
          exact AllReadyL.nil
        exact AllReadyL.nil
      exact AllReadyL.nil
    refine qMk MD 5 26 n (bc (List.replicate n false)) 4 ?_ ?_ (mk57_run n HN.out rfl rfl rfl)
    · clear MD
      intro gi w45 N45
      simp only [Act.put, List.setIfInBounds_toArray, List.set_cons_zero, List.set_cons_succ]
      refine dR [1, 3, 7] ?_
      refine qMk N45 1 22 n (cellsL (List.replicate (2 * n) (.slice none 0 0, []))) 32 ?_ ?_ (mk22_run n HN.out rfl rfl rfl)
      · clear N45
        intro gl w46 N46
        simp only [Act.put, List.setIfInBounds_toArray, List.set_cons_zero, List.set_cons_succ]
        refine dR [3, 7] ?_
        refine qMk N46 3 24 n (bc (List.replicate n false)) 4 ?_ ?_ (mk57_run n HN.out rfl rfl rfl)
        · clear N46
          intro gs w47 N47
          simp only [Act.put, List.setIfInBounds_toArray, List.set_cons_zero, List.set_cons_succ]
          refine dP 6 27 (.agg #[.slice (some ⟨gl, 0, none⟩) n n, .slice (some ⟨gs, 0, none⟩) n n, .slice (some ⟨gi, 0, none⟩) n n]) ?_
          simp only [Act.put, List.setIfInBounds_toArray, List.set_cons_zero, List.set_cons_succ]
          refine dR [7] ?_
          refine qA N47 7 7 59 #[.slice none 0 0, .slice none 0 0, .slice none 0 0] ?_ ?_
          · clear N47
            intro gr w48 N48
            simp only [Act.put, List.setIfInBounds_toArray, List.set_cons_zero, List.set_cons_succ]
            refine dR [8] ?_
            refine qS N48 8 59 7 3 #[.slice (some ⟨gl, 0, none⟩) n n, .slice (some ⟨gs, 0, none⟩) n n, .slice (some ⟨gi, 0, none⟩) n n] ?_ AllReadyL.nil
            clear N48
            intro w_ N49
            refine dDone ?_
            exact hK (gr, gl, gs, gi) _ ⟨Mem.perm N49.out (List.Perm.trans (List.Perm.trans (List.Perm.trans (List.Perm.trans (List.Perm.cons _ (List.Perm.cons _ (List.Perm.swap _ _ _))) (List.Perm.cons _ (List.Perm.swap _ _ _))) (List.Perm.swap _ _ _)) (List.Perm.cons _ (List.Perm.swap _ _ _))) (List.Perm.cons _ (List.Perm.cons _ (List.Perm.swap _ _ _))))⟩
          exact AllReadyL.nil
        refine qA N46 7 7 59 #[.slice none 0 0, .slice none 0 0, .slice none 0 0] ?_ ?_
        · clear N46
          intro gr w50 N50
          simp only [Act.put, List.setIfInBounds_toArray, List.set_cons_zero, List.set_cons_succ]
          refine dR [3] ?_
          refine qMk N50 3 24 n (bc (List.replicate n false)) 4 ?_ ?_ (mk57_run n HN.out rfl rfl rfl)
          · clear N50
            intro gs w51 N51
            simp only [Act.put, List.setIfInBounds_toArray, List.set_cons_zero, List.set_cons_succ]
            refine dP 6 27 (.agg #[.slice (some ⟨gl, 0, none⟩) n n, .slice (some ⟨gs, 0, none⟩) n n, .slice (some ⟨gi, 0, none⟩) n n]) ?_
            simp only [Act.put, List.setIfInBounds_toArray, List.set_cons_zero, List.set_cons_succ]
            refine dR [8] ?_
            refine qS N51 8 59 7 2 #[.slice (some ⟨gl, 0, none⟩) n n, .slice (some ⟨gs, 0, none⟩) n n, .slice (some ⟨gi, 0, none⟩) n n] ?_ AllReadyL.nil
            clear N51
            intro w_ N52
            refine dDone ?_
            exact hK (gr, gl, gs, gi) _ ⟨Mem.perm N52.out (List.Perm.trans (List.Perm.trans (List.Perm.trans (List.Perm.cons _ (List.Perm.swap _ _ _)) (List.Perm.swap _ _ _)) (List.Perm.cons _ (List.Perm.swap _ _ _))) (List.Perm.cons _ (List.Perm.cons _ (List.Perm.swap _ _ _))))⟩
          exact AllReadyL.nil
        exact AllReadyL.nil
      refine qMk N45 3 24 n (bc (List.replicate n false)) 4 ?_ ?_ (mk57_run n HN.out rfl rfl rfl)
      · clear N45
        intro gs w53 N53
        simp only [Act.put, List.setIfInBounds_toArray, List.set_cons_zero, List.set_cons_succ]
        refine dR [1, 7] ?_
        refine qMk N53 1 22 n (cellsL (List.replicate (2 * n) (.slice none 0 0, []))) 32 ?_ ?_ (mk22_run n HN.out rfl rfl rfl)
        · clear N53
          intro gl w54 N54
          simp only [Act.put, List.setIfInBounds_toArray, List.set_cons_zero, List.set_cons_succ]
          refine dP 6 27 (.agg #[.slice (some ⟨gl, 0, none⟩) n n, .slice (some ⟨gs, 0, none⟩) n n, .slice (some ⟨gi, 0, none⟩) n n]) ?_
          simp only [Act.put, List.setIfInBounds_toArray, List.set_cons_zero, List.set_cons_succ]
          refine dR [7] ?_
          refine qA N54 7 7 59 #[.slice none 0 0, .slice none 0 0, .slice none 0 0] ?_ ?_
          · clear N54
            intro gr w55 N55
            simp only [Act.put, List.setIfInBounds_toArray, List.set_cons_zero, List.set_cons_succ]
            refine dR [8] ?_
            refine qS N55 8 59 7 3 #[.slice (some ⟨gl, 0, none⟩) n n, .slice (some ⟨gs, 0, none⟩) n n, .slice (some ⟨gi, 0, none⟩) n n] ?_ AllReadyL.nil
            clear N55
            intro w_ N56
            refine dDone ?_
            exact hK (gr, gl, gs, gi) _ ⟨Mem.perm N56.out (List.Perm.trans (List.Perm.trans (List.Perm.trans (List.Perm.trans (List.Perm.trans (List.Perm.cons _ (List.Perm.cons _ (List.Perm.swap _ _ _))) (List.Perm.cons _ (List.Perm.swap _ _ _))) (List.Perm.swap _ _ _)) (List.Perm.cons _ (List.Perm.cons _ (List.Perm.swap _ _ _)))) (List.Perm.cons _ (List.Perm.swap _ _ _))) (List.Perm.cons _ (List.Perm.cons _ (List.Perm.swap _ _ _))))⟩
          exact AllReadyL.nil
        refine qA N53 7 7 59 #[.slice none 0 0, .slice none 0 0, .slice none 0 0] ?_ ?_
        · clear N53
          intro gr w57 N57
          simp only [Act.put, List.setIfInBounds_toArray, List.set_cons_zero, List.set_cons_succ]
          refine dR [1] ?_
          refine qMk N57 1 22 n (cellsL (List.replicate (2 * n) (.slice none 0 0, []))) 32 ?_ ?_ (mk22_run n HN.out rfl rfl rfl)
          · clear N57
            intro gl w58 N58
            simp only [Act.put, List.setIfInBounds_toArray, List.set_cons_zero, List.set_cons_succ]
            refine dP 6 27 (.agg #[.slice (some ⟨gl, 0, none⟩) n n, .slice (some ⟨gs, 0, none⟩) n n, .slice (some ⟨gi, 0, none⟩) n n]) ?_
            simp only [Act.put, List.setIfInBounds_toArray, List.set_cons_zero, List.set_cons_succ]
            refine dR [8] ?_
            refine qS N58 8 59 7 2 #[.slice (some ⟨gl, 0, none⟩) n n, .slice (some ⟨gs, 0, none⟩) n n, .slice (some ⟨gi, 0, none⟩) n n] ?_ AllReadyL.nil
            clear N58
            intro w_ N59
            refine dDone ?_
            exact hK (gr, gl, gs, gi) _ ⟨Mem.perm N59.out (List.Perm.trans (List.Perm.trans (List.Perm.trans (List.Perm.trans (List.Perm.cons _ (List.Perm.swap _ _ _)) (List.Perm.swap _ _ _)) (List.Perm.cons _ (List.Perm.cons _ (List.Perm.swap _ _ _)))) (List.Perm.cons _ (List.Perm.swap _ _ _))) (List.Perm.cons _ (List.Perm.cons _ (List.Perm.swap _ _ _))))⟩
          exact AllReadyL.nil
        exact AllReadyL.nil
      refine qA N45 7 7 59 #[.slice none 0 0, .slice none 0 0, .slice none 0 0] ?_ ?_
      · clear N45
        intro gr w60 N60
        simp only [Act.put, List.setIfInBounds_toArray, List.set_cons_zero, List.set_cons_succ]
        refine dR [1, 3] ?_
        refine qMk N60 1 22 n (cellsL (List.replicate (2 * n) (.slice none 0 0, []))) 32 ?_ ?_ (mk22_run n HN.out rfl rfl rfl)
        · clear N60
          intro gl w61 N61
          simp only [Act.put, List.setIfInBounds_toArray, List.set_cons_zero, List.set_cons_succ]
          refine dR [3] ?_
          refine qMk N61 3 24 n (bc (List.replicate n false)) 4 ?_ ?_ (mk57_run n HN.out rfl rfl rfl)
          · clear N61
            intro gs w62 N62
            simp only [Act.put, List.setIfInBounds_toArray, List.set_cons_zero, List.set_cons_succ]
            refine dP 6 27 (.agg #[.slice (some ⟨gl, 0, none⟩) n n, .slice (some ⟨gs, 0, none⟩) n n, .slice (some ⟨gi, 0, none⟩) n n]) ?_
            simp only [Act.put, List.setIfInBounds_toArray, List.set_cons_zero, List.set_cons_succ]
            refine dR [8] ?_
            refine qS N62 8 59 7 1 #[.slice (some ⟨gl, 0, none⟩) n n, .slice (some ⟨gs, 0, none⟩) n n, .slice (some ⟨gi, 0, none⟩) n n] ?_ AllReadyL.nil
            clear N62
            intro w_ N63
            refine dDone ?_
            exact hK (gr, gl, gs, gi) _ ⟨Mem.perm N63.out (List.Perm.trans (List.Perm.trans (List.Perm.swap _ _ _) (List.Perm.cons _ (List.Perm.swap _ _ _))) (List.Perm.cons _ (List.Perm.cons _ (List.Perm.swap _ _ _))))⟩
          exact AllReadyL.nil
        refine qMk N60 3 24 n (bc (List.replicate n false)) 4 ?_ ?_ (mk57_run n HN.out rfl rfl rfl)
        · clear N60
          intro gs w64 N64
          simp only [Act.put, List.setIfInBounds_toArray, List.set_cons_zero, List.set_cons_succ]
          refine dR [1] ?_
          refine qMk N64 1 22 n (cellsL (List.replicate (2 * n) (.slice none 0 0, []))) 32 ?_ ?_ (mk22_run n HN.out rfl rfl rfl)
          · clear N64
            intro gl w65 N65
            simp only [Act.put, List.setIfInBounds_toArray, List.set_cons_zero, List.set_cons_succ]
            refine dP 6 27 (.agg #[.slice (some ⟨gl, 0, none⟩) n n, .slice (some ⟨gs, 0, none⟩) n n, .slice (some ⟨gi, 0, none⟩) n n]) ?_
            simp only [Act.put, List.setIfInBounds_toArray, List.set_cons_zero, List.set_cons_succ]
            refine dR [8] ?_
            refine qS N65 8 59 7 1 #[.slice (some ⟨gl, 0, none⟩) n n, .slice (some ⟨gs, 0, none⟩) n n, .slice (some ⟨gi, 0, none⟩) n n] ?_ AllReadyL.nil
            clear N65
            intro w_ N66
            refine dDone ?_
            exact hK (gr, gl, gs, gi) _ ⟨Mem.perm N66.out (List.Perm.trans (List.Perm.trans (List.Perm.trans (List.Perm.swap _ _ _) (List.Perm.cons _ (List.Perm.cons _ (List.Perm.swap _ _ _)))) (List.Perm.cons _ (List.Perm.swap _ _ _))) (List.Perm.cons _ (List.Perm.cons _ (List.Perm.swap _ _ _))))⟩
          exact AllReadyL.nil
        exact AllReadyL.nil
      exact AllReadyL.nil
    refine qA MD 7 7 59 #[.slice none 0 0, .slice none 0 0, .slice none 0 0] ?_ ?_
    · clear MD
      intro gr w67 N67
      simp only [Act.put, List.setIfInBounds_toArray, List.set_cons_zero, List.set_cons_succ]
      refine dR [1, 3, 5] ?_
      refine qMk N67 1 22 n (cellsL (List.replicate (2 * n) (.slice none 0 0, []))) 32 ?_ ?_ (mk22_run n HN.out rfl rfl rfl)
      · clear N67
        intro gl w68 N68
        simp only [Act.put, List.setIfInBounds_toArray, List.set_cons_zero, List.set_cons_succ]
        refine dR [3, 5] ?_
        refine qMk N68 3 24 n (bc (List.replicate n false)) 4 ?_ ?_ (mk57_run n HN.out rfl rfl rfl)
        · clear N68
          intro gs w69 N69
          simp only [Act.put, List.setIfInBounds_toArray, List.set_cons_zero, List.set_cons_succ]
          refine dR [5] ?_
          refine qMk N69 5 26 n (bc (List.replicate n false)) 4 ?_ ?_ (mk57_run n HN.out rfl rfl rfl)
          · clear N69
            intro gi w70 N70
            simp only [Act.put, List.setIfInBounds_toArray, List.set_cons_zero, List.set_cons_succ]
            refine dP 6 27 (.agg #[.slice (some ⟨gl, 0, none⟩) n n, .slice (some ⟨gs, 0, none⟩) n n, .slice (some ⟨gi, 0, none⟩) n n]) ?_
            simp only [Act.put, List.setIfInBounds_toArray, List.set_cons_zero, List.set_cons_succ]
            refine dR [8] ?_
            refine qS N70 8 59 7 0 #[.slice (some ⟨gl, 0, none⟩) n n, .slice (some ⟨gs, 0, none⟩) n n, .slice (some ⟨gi, 0, none⟩) n n] ?_ AllReadyL.nil
            clear N70
            intro w_ N71
            refine dDone ?_
            exact hK (gr, gl, gs, gi) _ N71
          exact AllReadyL.nil
        refine qMk N68 5 26 n (bc (List.replicate n false)) 4 ?_ ?_ (mk57_run n HN.out rfl rfl rfl)
        · clear N68
          intro gi w72 N72
          simp only [Act.put, List.setIfInBounds_toArray, List.set_cons_zero, List.set_cons_succ]
          refine dR [3] ?_
          refine qMk N72 3 24 n (bc (List.replicate n false)) 4 ?_ ?_ (mk57_run n HN.out rfl rfl rfl)
          · clear N72
            intro gs w73 N73
            simp only [Act.put, List.setIfInBounds_toArray, List.set_cons_zero, List.set_cons_succ]
            refine dP 6 27 (.agg #[.slice (some ⟨gl, 0, none⟩) n n, .slice (some ⟨gs, 0, none⟩) n n, .slice (some ⟨gi, 0, none⟩) n n]) ?_
            simp only [Act.put, List.setIfInBounds_toArray, List.set_cons_zero, List.set_cons_succ]
            refine dR [8] ?_
            refine qS N73 8 59 7 0 #[.slice (some ⟨gl, 0, none⟩) n n, .slice (some ⟨gs, 0, none⟩) n n, .slice (some ⟨gi, 0, none⟩) n n] ?_ AllReadyL.nil
            clear N73
            intro w_ N74
            refine dDone ?_
            exact hK (gr, gl, gs, gi) _ ⟨Mem.perm N74.out (List.Perm.cons _ (List.Perm.cons _ (List.Perm.swap _ _ _)))⟩
          exact AllReadyL.nil
        exact AllReadyL.nil
      refine qMk N67 3 24 n (bc (List.replicate n false)) 4 ?_ ?_ (mk57_run n HN.out rfl rfl rfl)
      · clear N67
        intro gs w75 N75
        simp only [Act.put, List.setIfInBounds_toArray, List.set_cons_zero, List.set_cons_succ]
        refine dR [1, 5] ?_
        refine qMk N75 1 22 n (cellsL (List.replicate (2 * n) (.slice none 0 0, []))) 32 ?_ ?_ (mk22_run n HN.out rfl rfl rfl)
        · clear N75
          intro gl w76 N76
          simp only [Act.put, List.setIfInBounds_toArray, List.set_cons_zero, List.set_cons_succ]
          refine dR [5] ?_
          refine qMk N76 5 26 n (bc (List.replicate n false)) 4 ?_ ?_ (mk57_run n HN.out rfl rfl rfl)
          · clear N76
            intro gi w77 N77
            simp only [Act.put, List.setIfInBounds_toArray, List.set_cons_zero, List.set_cons_succ]
            refine dP 6 27 (.agg #[.slice (some ⟨gl, 0, none⟩) n n, .slice (some ⟨gs, 0, none⟩) n n, .slice (some ⟨gi, 0, none⟩) n n]) ?_
            simp only [Act.put, List.setIfInBounds_toArray, List.set_cons_zero, List.set_cons_succ]
            refine dR [8] ?_
            refine qS N77 8 59 7 0 #[.slice (some ⟨gl, 0, none⟩) n n, .slice (some ⟨gs, 0, none⟩) n n, .slice (some ⟨gi, 0, none⟩) n n] ?_ AllReadyL.nil
            clear N77
            intro w_ N78
            refine dDone ?_
            exact hK (gr, gl, gs, gi) _ ⟨Mem.perm N78.out (List.Perm.cons _ (List.Perm.swap _ _ _))⟩
          exact AllReadyL.nil
        refine qMk N75 5 26 n (bc (List.replicate n false)) 4 ?_ ?_ (mk57_run n HN.out rfl rfl rfl)
        · clear N75
          intro gi w79 N79
          simp only [Act.put, List.setIfInBounds_toArray, List.set_cons_zero, List.set_cons_succ]
          refine dR [1] ?_
          refine qMk N79 1 22 n (cellsL (List.replicate (2 * n) (.slice none 0 0, []))) 32 ?_ ?_ (mk22_run n HN.out rfl rfl rfl)
          · clear N79
            intro gl w80 N80
            simp only [Act.put, List.setIfInBounds_toArray, List.set_cons_zero, List.set_cons_succ]
            refine dP 6 27 (.agg #[.slice (some ⟨gl, 0, none⟩) n n, .slice (some ⟨gs, 0, none⟩) n n, .slice (some ⟨gi, 0, none⟩) n n]) ?_
            simp only [Act.put, List.setIfInBounds_toArray, List.set_cons_zero, List.set_cons_succ]
            refine dR [8] ?_
            refine qS N80 8 59 7 0 #[.slice (some ⟨gl, 0, none⟩) n n, .slice (some ⟨gs, 0, none⟩) n n, .slice (some ⟨gi, 0, none⟩) n n] ?_ AllReadyL.nil
            clear N80
            intro w_ N81
            refine dDone ?_
            exact hK (gr, gl, gs, gi) _ ⟨Mem.perm N81.out (List.Perm.trans (List.Perm.cons _ (List.Perm.cons _ (List.Perm.swap _ _ _))) (List.Perm.cons _ (List.Perm.swap _ _ _)))⟩
          exact AllReadyL.nil
        exact AllReadyL.nil
      refine qMk N67 5 26 n (bc (List.replicate n false)) 4 ?_ ?_ (mk57_run n HN.out rfl rfl rfl)
      · clear N67
        intro gi w82 N82
        simp only [Act.put, List.setIfInBounds_toArray, List.set_cons_zero, List.set_cons_succ]
        refine dR [1, 3] ?_
        refine qMk N82 1 22 n (cellsL (List.replicate (2 * n) (.slice none 0 0, []))) 32 ?_ ?_ (mk22_run n HN.out rfl rfl rfl)
        · clear N82
          intro gl w83 N83
          simp only [Act.put, List.setIfInBounds_toArray, List.set_cons_zero, List.set_cons_succ]
          refine dR [3] ?_
          refine qMk N83 3 24 n (bc (List.replicate n false)) 4 ?_ ?_ (mk57_run n HN.out rfl rfl rfl)
          · clear N83
            intro gs w84 N84
            simp only [Act.put, List.setIfInBounds_toArray, List.set_cons_zero, List.set_cons_succ]
            refine dP 6 27 (.agg #[.slice (some ⟨gl, 0, none⟩) n n, .slice (some ⟨gs, 0, none⟩) n n, .slice (some ⟨gi, 0, none⟩) n n]) ?_
            simp only [Act.put, List.setIfInBounds_toArray, List.set_cons_zero, List.set_cons_succ]
            refine dR [8] ?_
            refine qS N84 8 59 7 0 #[.slice (some ⟨gl, 0, none⟩) n n, .slice (some ⟨gs, 0, none⟩) n n, .slice (some ⟨gi, 0, none⟩) n n] ?_ AllReadyL.nil
            clear N84
            intro w_ N85
            refine dDone ?_
            exact hK (gr, gl, gs, gi) _ ⟨Mem.perm N85.out (List.Perm.trans (List.Perm.cons _ (List.Perm.swap _ _ _)) (List.Perm.cons _ (List.Perm.cons _ (List.Perm.swap _ _ _))))⟩
          exact AllReadyL.nil
        refine qMk N82 3 24 n (bc (List.replicate n false)) 4 ?_ ?_ (mk57_run n HN.out rfl rfl rfl)
        · clear N82
          intro gs w86 N86
          simp only [Act.put, List.setIfInBounds_toArray, List.set_cons_zero, List.set_cons_succ]
          refine dR [1] ?_
          refine qMk N86 1 22 n (cellsL (List.replicate (2 * n) (.slice none 0 0, []))) 32 ?_ ?_ (mk22_run n HN.out rfl rfl rfl)
          · clear N86
            intro gl w87 N87
            simp only [Act.put, List.setIfInBounds_toArray, List.set_cons_zero, List.set_cons_succ]
            refine dP 6 27 (.agg #[.slice (some ⟨gl, 0, none⟩) n n, .slice (some ⟨gs, 0, none⟩) n n, .slice (some ⟨gi, 0, none⟩) n n]) ?_
            simp only [Act.put, List.setIfInBounds_toArray, List.set_cons_zero, List.set_cons_succ]
            refine dR [8] ?_
            refine qS N87 8 59 7 0 #[.slice (some ⟨gl, 0, none⟩) n n, .slice (some ⟨gs, 0, none⟩) n n, .slice (some ⟨gi, 0, none⟩) n n] ?_ AllReadyL.nil
            clear N87
            intro w_ N88
            refine dDone ?_
            exact hK (gr, gl, gs, gi) _ ⟨Mem.perm N88.out (List.Perm.trans (List.Perm.trans (List.Perm.cons _ (List.Perm.cons _ (List.Perm.swap _ _ _))) (List.Perm.cons _ (List.Perm.swap _ _ _))) (List.Perm.cons _ (List.Perm.cons _ (List.Perm.swap _ _ _))))⟩
          exact AllReadyL.nil
        exact AllReadyL.nil
      exact AllReadyL.nil
    exact AllReadyL.nil
  rintro ⟨gr, gl, gs, gi⟩ W5 M5
  dsimp only at M5 ⊢
  simp only [putAll, Act.put, List.setIfInBounds_toArray, List.set_cons_zero, List.set_cons_succ]
  clear M0
  have M6 : Aside0 (Mem [36, 2] w W5 [(gr, #[.slice (some ⟨gl, 0, none⟩) n n, .slice (some ⟨gs, 0, none⟩) n n, .slice (some ⟨gi, 0, none⟩) n n], 59), (gl, (cellsL (List.replicate (2 * n) (.slice none 0 0, []))), 32), (gs, (bc (List.replicate n false)), 4), (gi, (bc (List.replicate n false)), 4)] (rowsOf true (List.replicate (2 * n) (.slice none 0 0, [])))) := ⟨Mem.nils M5.out (2 * n)⟩
  clear M5
  have HLF := Lib.hid (Q.lines_f s HS.out 1000000 (by have := HS.out; omega))
  go_wp2_with fail
  refine (rotaref19_lines.calls 1000000 s _ W5 HLF.out).mono ?_
  rintro e W29 ⟨v8, rfl, hR8, hb8⟩
  have HLS := Lib.hid (fun p (hp : p ∈ Q.lnR [] s.data.toList) => show p.length ≤ 262144 by
    have h1 := Q.lnR_size s.data.toList [] p hp
    have h2 := Q.sz_len s
    have h3 := HS.out
    simp only [List.length_nil] at h1; omega)
  have HLN := Lib.hid (show (Q.lnR [] s.data.toList).length ≤ 262145 by
    have h1 := Q.lnR_len s.data.toList []
    have h2 := Q.sz_len s
    have h3 := HS.out
    omega)
  generalize Q.lnR [] s.data.toList = ls at HRS HLS HLN hR8
  by_cases hls : ls = []
  · have M7 := Aside0.mk (M6.out.call hb8)
    have HRR := Lib.hid HRS.out
    subst hls
    obtain ⟨A8, c8, rfl, _, _⟩ := Kd.R_reads hR8
    have xr0 := M7.out.cell 0 rfl 0
    have HEE := Lib.hid (show res = (List.replicate (2 * n) [], 0, 0) from HRS.out.symm)
    clear hR8 hb8 M6 HRS HRR HLF
    go_wp2_with fail
    go_loopw [9] (fun v9 wr => v9 = .int .i64 0 ∧ wr = W29) (fun _ _ => 0)
    case atStart => exact ⟨rfl, rfl⟩
    obtain ⟨rfl, rfl⟩ := hrel
    go_wp2
    go_ret3
    rw [HEE.out]
    have hz := choices_ownM M7.out (by rw [List.length_replicate]) HN.out
    rw [List.map_replicate] at hz
    exact ⟨_, rfl, hz, M7.out.below⟩
  obtain ⟨gln, cln, curs, rfl, M7, hcu⟩ := strs_box M6.out (by decide) hR8 hb8 (by simpa using hls)
  rw [List.length_map]
  have M8 := Aside0.mk M7
  have HCU := Lib.hid (fun (i : Nat) (m : List UInt8) (hm : ls[i]? = some m) => hcu i (Q.sb m) (by rw [List.getElem?_map, hm]; rfl))
  clear hR8 hb8 M6 M7 hcu hls HLF
  go_wp2_with fail
  go_loopw [9] (fun v9 wr => ∃ (i : Nat) (L : List (Value × List Int)) (S I hd : List Bool), i ≤ ls.length ∧ v9 = .int .i64 i ∧ L.length = 2 * n ∧ (∀ p ∈ L, p.2.length ≤ i * 262144) ∧ HadS n S I hd ∧ Q.lines19 n i (L.map (·.2)) hd (ls.drop i) = res ∧
    Mem [36, 2] w wr [(gr, #[.slice (some ⟨gl, 0, none⟩) n n, .slice (some ⟨gs, 0, none⟩) n n, .slice (some ⟨gi, 0, none⟩) n n], 59), (gl, cellsL L, 32), (gs, bc S, 4), (gi, bc I, 4), (gln, curs, 9)] (rowsOf true L)) (fun v9 _ => ls.length - (intOf v9).toNat)
  case atStart => exact ⟨0, List.replicate (2 * n) (.slice none 0 0, []), List.replicate n false, List.replicate n false, List.replicate (2 * n) false, Nat.zero_le _, rfl, List.length_replicate, (fun p hp => by rw [List.eq_of_mem_replicate hp]; exact Nat.zero_le _), had_zero n, by rw [List.drop_zero, List.map_replicate]; exact HRS.out, M8.out⟩
  rename World => w1
  obtain ⟨i, L, S, I, hd, hi, rfl, hL, hbd, hR, hln, M⟩ := hrel
  have M9 := Aside0.mk M
  have HL := Lib.hid hL
  have HBD := Lib.hid hbd
  have HHR := Lib.hid hR
  have HLI := Lib.hid hln
  clear M M8 hL hbd hR hln HRS
  by_cases hir : i < ls.length
  · obtain ⟨m, hm⟩ : ∃ m, ls[i]? = some m := ⟨_, List.getElem?_eq_getElem hir⟩
    have xs : w1.cell? ⟨gln, i, none⟩ = some (.string (Q.sb m)) := word_atM M9.out 4 rfl (HCU.out i m hm)
    have HMZ := Lib.hid (HLS.out m (List.mem_of_getElem? hm))
    have HDR := Lib.hid (show ls.drop i = m :: ls.drop (i + 1) by
      rw [List.drop_eq_getElem_cons hir]
      congr 1
      have := List.getElem?_eq_getElem hir
      rw [hm] at this
      exact (Option.some.inj this).symm)
    have q2 : (i : Int) < (ls.length : Int) := by omega
    have HIR := Lib.hid hir
    have HMM := Lib.hid hm
    have W1 := Lib.hid (show wrap64 ((i : Int) + 1) = ((i + 1 : Nat) : Int) by rw [Int.natCast_add]; exact IntWalk.wrap64_in _ (by have := HLN.out; omega))
    have HWF := Lib.hid (Q.words_f (Q.sb m) (by show m.length ≤ _; exact HMZ.out) 1000000 (by have h1 : (Q.sb m).size = m.length := rfl; have := HMZ.out; omega))
    clear hm hir hi
    go_wp2_with fail
    refine (rotaref19_words.calls 1000000 (Q.sb m) _ w1 HWF.out).mono ?_
    rintro e W40 ⟨v10, rfl, hR10, hb10⟩
    have HWS := Lib.hid (fun p (hp : p ∈ Fld.fld (fun b => b.toNat == 32) [] m) => show p.length ≤ 262144 by
      have h1 := Q.fld_size _ m [] p hp
      have h2 := HMZ.out
      simp only [List.length_nil] at h1; omega)
    have HWL := Lib.hid (Q.fld_len (fun b => b.toNat == 32) m [])
    cases hws : Fld.fld (fun b => b.toNat == 32) [] m with
    | nil =>
      rw [hws] at hR10
      obtain ⟨A10, c10, rfl, _, _⟩ := Kd.R_reads hR10
      have M10 := Aside0.mk (M9.out.call hb10)
      have hnx := HLI.out
      rw [HDR.out, Q.lines_skip _ _ _ _ _ _ (.inl hws)] at hnx
      have HNX := Lib.hid hnx
      clear hnx hws hR10 hb10 M9 xs
      go_wp2
      go_roundw
      case rel => exact ⟨i + 1, L, S, I, hd, HIR.out, congrArg _ W1.out, HL.out, fun q hq => Nat.le_trans (HBD.out q hq) (by omega), HHR.out, HNX.out, M10.out⟩
      case measure => exact meas HIR.out W1.out
    | cons f0 ft =>
      rw [hws] at hR10 HWL HWS
      obtain ⟨gw, c10, cur, hv10, M10, hcw⟩ := strs_box M9.out (by decide) hR10 hb10 (by simp)
      subst hv10
      have M11 := Aside0.mk M10
      have HCW := Lib.hid hcw
      have HWSS := Lib.hid hws
      have hz0 : 0 < m.length := by have h1 := HWL.out; simp only [reduceIte, List.length_cons] at h1; omega
      have xs : W40.cell? ⟨gln, i, none⟩ = some (.string (Q.sb m)) := word_atM M11.out 4 rfl (HCU.out i m HMM.out)
      have hzs : 0 < (Q.sb m).size := hz0
      have hzi : ((0 : Int) < ((Q.sb m).size : Int)) = True := eq_true (by omega)
      have hl0 : (((Q.sb f0 :: ft.map Q.sb).length : Nat) : Int) = ((ft.length : Nat) : Int) + 1 := by simp
      have he0 : ((ft.length : Int) + 1 = 0) = False := eq_false (by omega)
      have he1 : ((ft.length : Int) + 1 == 0) = false := beq_eq_false_iff_ne.mpr (by omega)
      have hbt : bt (Q.sb m) 0 = (((m[0]'hz0).toNat : Nat) : Int) := Q.bt_get (Q.sb m) 0 hz0
      have hat : ∀ h, (((Q.sb m)[0]'h).toNat : Int) = (((m[0]'hz0).toNat : Nat) : Int) := fun h => by
        have := bt_at (Q.sb m) 0 (by simpa using h)
        rw [← hbt, ← this]; rfl
      clear hcw hws M10 M9 hR10 hb10
      simp only [List.map_cons, List.length_cons, List.length_map]
      by_cases h35 : (m[0]'hz0) = 35
      · have hb35 : ∀ h, ((((Q.sb m)[0]'h).toNat : Int) == 35) = true := fun h => by rw [hat h, h35]; rfl
        have hc35 : ∀ h, ((((Q.sb m)[0]'h).toNat : Int) = 35) = True := fun h => eq_true (by rw [hat h, h35]; rfl)
        have hnx := HLI.out
        rw [HDR.out, Q.lines_skip _ _ _ _ _ _ (.inr (by rw [List.head?_eq_getElem?, List.getElem?_eq_getElem hz0, h35]))] at hnx
        have HNX := Lib.hid hnx
        clear hnx h35 hbt hat
        go_wp2
        go_roundw
        case rel => exact ⟨i + 1, L, S, I, hd, HIR.out, congrArg _ W1.out, HL.out, fun q hq => Nat.le_trans (HBD.out q hq) (by omega), HHR.out, HNX.out, M11.out.forget 5⟩
        case measure => exact meas HIR.out W1.out
      · have h35' : ¬ (((m[0]'hz0).toNat : Nat) : Int) = 35 := fun e => h35 (UInt8.toNat_inj.1 (by show _ = 35; omega))
        have hb35 : ∀ h, ((((Q.sb m)[0]'h).toNat : Int) == 35) = false := fun h => by rw [hat h]; exact beq_eq_false_iff_ne.mpr h35'
        have hc35 : ∀ h, ((((Q.sb m)[0]'h).toNat : Int) = 35) = False := fun h => eq_false (by rw [hat h]; exact h35')
        have HNO := Lib.hid (show ¬ (Fld.fld (fun b => b.toNat == 32) [] m = [] ∨ m.head? = some 35) from fun h => by
          rcases h with h | h
          · rw [HWSS.out] at h; cases h
          · rw [List.head?_eq_getElem?, List.getElem?_eq_getElem hz0] at h
            exact h35 (Option.some.inj h))
        clear h35 h35' hbt hat
        go_wp2_with (first
          | ((with_reducible refine gate_dst (N := 53) rfl ?_); refine eL M11 53 0 Tryd.underlying59 ?_)
          | fail)
        refine calls_to (line_calls (c := c10) (Q.sb f0) (ft.map Q.sb) M11.out HL.out HN.out HCW.out (fun p hp => by
          rw [← List.map_cons (f := Q.sb)] at hp
          obtain ⟨q, hq, rfl⟩ := List.mem_map.1 hp
          exact HWS.out q hq) (by have h1 := HWL.out; have h2 := HMZ.out; simp only [reduceIte, List.length_cons, List.length_map] at h1 ⊢; omega)
          (fun q hq => by have h1 := HWL.out; have h2 := HMZ.out; have h3 := HBD.out q hq; have h4 := HIR.out; have h5 := HLN.out; simp only [reduceIte, List.length_cons, List.length_map] at h1 ⊢; omega) HHR.out) (by simp only [List.length_map]) ?_
        rintro e W55 ⟨L', S', I', rfl, M12, hL', hmap, hR'⟩
        have hby : ((Q.sb f0 :: ft.map Q.sb).map (·.data.toList)) = f0 :: ft := by rw [← List.map_cons (f := Q.sb), Q.sb_list]
        rw [hby] at hmap hR' ⊢
        have hbn : ∀ q ∈ (Q.step n (L.map (·.2)) hd (f0 :: ft)).2.1, q.length ≤ (i + 1) * 262144 := fun q hq => by
          have h1 := Q.step_bound n (L.map (·.2)) hd _ (i * 262144) (fun y hy => by
            obtain ⟨x, hx, rfl⟩ := List.mem_map.1 hy
            exact HBD.out x hx) q hq
          have h2 := HWL.out
          have h3 := HMZ.out
          simp only [reduceIte] at h2
          omega
        have hnx := HLI.out
        rw [HDR.out] at hnx
        generalize hst : Q.step n (L.map (·.2)) hd (f0 :: ft) = st at hmap hR' hbn ⊢
        rw [← HWSS.out] at hst
        obtain ⟨c, st', hd'⟩ := st
        have M13 := Aside0.mk M12
        by_cases hc : c = 0
        · subst hc
          rw [Q.lines_next n i _ st' hd hd' _ _ HNO.out hst] at hnx
          have HNX := Lib.hid hnx
          have HMP := Lib.hid hmap
          have HBN := Lib.hid hbn
          have HRN := Lib.hid hR'
          have HLL := Lib.hid hL'
          clear hnx hst hmap hbn hR' hL' M12 M11
          go_wp2_with (first
            | ((with_reducible refine gate_store (t := 59) (p := 7) rfl ?_); refine eR M13 59 7 0 #[.slice (some ⟨gl, 0, none⟩) n n, .slice (some ⟨gs, 0, none⟩) n n, .slice (some ⟨gi, 0, none⟩) n n] ?_; clear M13; intro wz M14)
            | fail)
          go_roundw
          case rel => exact ⟨i + 1, L', S', I', hd', HIR.out, congrArg _ W1.out, by rw [HLL.out]; exact HL.out, fun q hq => HBN.out q.2 (by show q.2 ∈ st'; rw [← HMP.out]; exact List.mem_map.2 ⟨q, hq, rfl⟩), HRN.out, by rw [HMP.out]; exact HNX.out, M14.out.forget 5⟩
          case measure => exact meas HIR.out W1.out
        · rw [Q.lines_bad n i c _ st' hd hd' _ _ HNO.out hst hc] at hnx
          have HNX := Lib.hid hnx
          have hc1 : (c = 0) = False := eq_false hc
          have hc2 : (c == 0) = false := beq_eq_false_iff_ne.mpr hc
          have hc3 : (c != 0) = true := by rw [bne, hc2]; rfl
          clear hnx hst hmap hbn hR' hL' M12 M11
          go_wp2_with (first
            | ((with_reducible refine gate_store (t := 59) (p := 7) rfl ?_); refine eR M13 59 7 0 #[.slice (some ⟨gl, 0, none⟩) n n, .slice (some ⟨gs, 0, none⟩) n n, .slice (some ⟨gi, 0, none⟩) n n] ?_; clear M13; intro wz M14)
            | fail)
          go_ret3
          rw [← HNX.out, W1.out]
          exact parsed_nil c _ M14.out.below
  · obtain rfl : i = ls.length := by omega
    have hnx := HLI.out
    rw [List.drop_of_length_le (Nat.le_refl _)] at hnx
    have HRR := Lib.hid (show res = (L.map (·.2), 0, 0) from hnx.symm)
    clear hnx hir hi
    have xr0 : w1.cell? ⟨gr, 0, none⟩ = some (.slice (some ⟨gl, 0, none⟩) n n) := M9.out.cell 0 rfl 0
    have q2 : ¬ (ls.length : Int) < (ls.length : Int) := by omega
    go_wp2
    go_ret3
    rw [HRR.out]
    exact ⟨_, rfl, choices_ownM M9.out HL.out HN.out, M9.out.below⟩
end Go.Proofs.YtonnlkpmfmknlaaDoor.Hof
end
