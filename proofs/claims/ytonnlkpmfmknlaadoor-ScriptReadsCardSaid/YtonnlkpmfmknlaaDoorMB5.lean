import Derived.Test.YtonnlkpmfmknlaaDoorMB3
import Derived.Test.YtonnlkpmfmknlaaDoorMB4
import Derived.Deep.QuietTactic
import Derived.BigQuiet
import Derived.StillTailTactics
import Derived.Lib.Hide
import Derived.WalkKit
import Derived.Outline
import Derived.IntWalk
section
/-
  (*script.reader).read, walked.
-/
set_option linter.unusedVariables false
set_option linter.unusedSimpArgs false
namespace Go.Proofs.YtonnlkpmfmknlaaDoor.Hof
open Go.RowKit Go.Shelf Go.Proofs.YtonnlkpmfmknlaaDoorW.PrintWords Go.Proofs.YtonnlkpmfmknlaaDoorW.PrintLast Go.Proofs.YtonnlkpmfmknlaaDoorW.PrintMore Hctx
/-- A reader's memory: the reader, its slices, a text's lines, a line's words. -/
@[reducible] def ROf (w0 W : World) (gr gl gm gs gw n m : Nat) (L : List (Value × List Int)) (curs cur : Array Value) (had : List UInt8 → Bool) : Prop :=
  MemO Tryd.prog [36, 2] w0 W [(gr, #[.slice (some ⟨gl, 0, none⟩) n n, .map (some gm), .int .i64 0], 51), (gl, cellsL L, 32), (gs, curs, 9), (gw, cur, 9)] (rowsOf true L) gm m had
/-- What a line's reading leaves. -/
def LineRead (w0 : World) (gr gl gm gs gw n m : Nat) (L : List (Value × List Int)) (curs cur : Array Value) (st : Int × List (List Int) × List Bool) (e : Ending) (W' : World) : Prop :=
  ∃ L' had', e = .returned (.int .i64 st.1) ∧ ROf w0 W' gr gl gm gs gw n (m + 1) L' curs cur had' ∧ L'.length = L.length ∧ L'.map (·.2) = st.2.1 ∧ Q.HadR n had' st.2.2
theorem MemO.more {P : Program} {es : List TypeId} {w0 W : World} {l : List (Nat × Array Value × TypeId)} {rows : List Row} {g n : Nat} {had : List UInt8 → Bool} (M : MemO P es w0 W l rows g n had) : MemO P es w0 W l rows g (n + 1) had := by
  obtain ⟨D, h1, h2⟩ := M.set
  exact ⟨M.mem, ⟨D, h1.mono (by omega), h2⟩, M.ge⟩
section
variable {w0 W : World} {gr gl gm gs gw n m : Nat} {L : List (Value × List Int)} {curs cur : Array Value} {had : List UInt8 → Bool} {hd : List Bool}
theorem left (M : ROf w0 W gr gl gm gs gw n m L curs cur had) (hR : Q.HadR n had hd) (c : Int) : LineRead w0 gr gl gm gs gw n m L curs cur (c, L.map (·.2), hd) (.returned (.int .i64 c)) W :=
  ⟨L, had, rfl, MemO.more M, rfl, rfl, hR⟩
/-- The cells that a line's reading loads. -/
theorem cells_of (M : ROf w0 W gr gl gm gs gw n m L curs cur had) : W.cell? ⟨gr, 0, none⟩ = some (.slice (some ⟨gl, 0, none⟩) n n) ∧ W.cell? ⟨gr, 1, none⟩ = some (.map (some gm)) := ⟨M.mem.cell 0 rfl 0, M.mem.cell 0 rfl 1⟩
theorem word_at (M : ROf w0 W gr gl gm gs gw n m L curs cur had) {i : Nat} {s : ByteArray} (h : cur[i]? = some (.string s)) : W.cell? ⟨gw, i, none⟩ = some (.string s) := (M.mem.cell 3 rfl i).trans h
end
theorem step_short (n : Nat) (st : List (List Int)) (hd : List Bool) (w : List UInt8) : Q.step n st hd [w] = (190, st, hd) := rfl
theorem step_head (n : Nat) (st : List (List Int)) (hd : List Bool) (w w1 : List UInt8) (r : List (List UInt8)) (h : ¬ ((w = Q.stealW ∨ w = Q.inputW) ∧ Q.numB w1 = true)) : Q.step n st hd (w :: w1 :: r) = (190, st, hd) := by
  unfold Q.step; exact if_neg h
theorem step_dom (n : Nat) (st : List (List Int)) (hd : List Bool) (w w1 : List UInt8) (r : List (List UInt8)) (h : (w = Q.stealW ∨ w = Q.inputW) ∧ Q.numB w1 = true) (h2 : Q.domV n w1 = none) : Q.step n st hd (w :: w1 :: r) = (191, st, hd) := by
  show (if (w = Q.stealW ∨ w = Q.inputW) ∧ Q.numB w1 = true then _ else _) = _
  rw [if_pos h, h2]
theorem step_had (n : Nat) (st : List (List Int)) (hd : List Bool) (w w1 : List UInt8) (r : List (List UInt8)) (h : (w = Q.stealW ∨ w = Q.inputW) ∧ Q.numB w1 = true) {d : Nat} (h2 : Q.domV n w1 = some d) (h3 : hd.getD (Q.slot d (decide (w = Q.stealW))) false = true) : Q.step n st hd (w :: w1 :: r) = (191, st, hd) := by
  show (if (w = Q.stealW ∨ w = Q.inputW) ∧ Q.numB w1 = true then _ else _) = _
  rw [if_pos h, h2]
  exact if_pos h3
theorem step_items (n : Nat) (st : List (List Int)) (hd : List Bool) (w w1 : List UInt8) (r : List (List UInt8)) (h : (w = Q.stealW ∨ w = Q.inputW) ∧ Q.numB w1 = true) {d : Nat} (h2 : Q.domV n w1 = some d) (h3 : hd.getD (Q.slot d (decide (w = Q.stealW))) false = false) :
    Q.step n st hd (w :: w1 :: r) = ((Q.items (decide (w = Q.stealW)) (Q.slot d (decide (w = Q.stealW))) st r).1, (Q.items (decide (w = Q.stealW)) (Q.slot d (decide (w = Q.stealW))) st r).2, hd.set (Q.slot d (decide (w = Q.stealW))) true) := by
  show (if (w = Q.stealW ∨ w = Q.inputW) ∧ Q.numB w1 = true then _ else _) = _
  rw [if_pos h, h2]
  exact if_neg (by rw [h3]; simp)
theorem slot_steal (d : Nat) : Q.slot d true = d * 2 := by unfold Q.slot; simp; omega
theorem slot_input (d : Nat) : Q.slot d false = d * 2 + 1 := by unfold Q.slot; simp; omega
theorem par_steal (d : Nat) : par true (d * 2) = true := by unfold par; rw [if_pos (by omega)]
theorem par_input (d : Nat) : par true (d * 2 + 1) = false := by unfold par; rw [if_neg (by omega)]; rfl
section
variable {es : List TypeId} {w0 W : World} {l : List (Nat × Array Value × TypeId)} {g n : Nat} {had : List UInt8 → Bool} {L : List (Value × List Int)}
theorem front_row (M : MemO Tryd.prog es w0 W l (rowsOf true L) g n had) (k : Nat) {p : Value × List Int} (hk : L[k]? = some p) : MemO Tryd.prog es w0 W l (mkR (par true k) p :: (rowsOf true L).eraseIdx k) g n had :=
  M.rowsBy (fun h => Mem.front h k (by rw [rowsOf_get, hk]; rfl))
theorem back_row (k : Nat) (hk : k < L.length) (p : Value × List Int) (M : MemO Tryd.prog es w0 W l (mkR (par true k) p :: (rowsOf true L).eraseIdx k) g n had) : MemO Tryd.prog es w0 W l (rowsOf true (L.set k p)) g n had := by
  rw [rowsOf_set]
  exact M.rowsBy (fun h => Mem.back k (by rw [rowsOf_len]; exact hk) h)
theorem slice_one {d : Kd Int} {e : TypeId} {v : Value} {xs : List Int} {rows : List Row} (M : MemO Tryd.prog es w0 W l (⟨d, e, v, xs⟩ :: rows) g n had) : v.oneCell' = true := by
  obtain ⟨A, c, rfl⟩ := Kd.R_slice M.mem.own; rfl
end
theorem items_cons (b : Bool) (k : Nat) (st : List (List Int)) (s : List UInt8) (r : List (List UInt8)) {v : Int} (h : Q.itemV b s = some v) : Q.items b k st (s :: r) = Q.items b k (st.set k (st.getD k [] ++ [v])) r := by
  rw [Q.items, h]
theorem items_stop (b : Bool) (k : Nat) (st : List (List Int)) (s : List UInt8) (r : List (List UInt8)) (h : Q.itemV b s = none) : Q.items b k st (s :: r) = (190, st) := by
  rw [Q.items, h]
theorem item_num {b : Bool} {s : List UInt8} (h : Q.numB s = false) : Q.itemV b s = none := by unfold Q.itemV; rw [if_neg (by rw [h]; simp)]
theorem item_ubad {s : List UInt8} (h : ¬ ∃ u, Lib.parseUintB 32 s = .ok u) : Q.itemV true s = none := by
  unfold Q.itemV Q.uintV
  split
  · cases hc : Lib.parseUintB 32 s with
    | ok u => exact absurd ⟨u, hc⟩ h
    | _ => rfl
  · rfl
theorem item_uok {s : List UInt8} (hn : Q.numB s = true) {u : Nat} (h : Lib.parseUintB 32 s = .ok u) : Q.itemV true s = some (u : Int) := by
  unfold Q.itemV Q.uintV
  rw [if_pos hn, h]; rfl
theorem item_ibad {s : List UInt8} (h : ¬ ∃ u, Lib.parseIntB 64 s = .ok u) : Q.itemV false s = none := by
  unfold Q.itemV Q.intV
  split
  · cases hc : Lib.parseIntB 64 s with
    | ok u => exact absurd ⟨u, hc⟩ h
    | _ => rfl
  · rfl
theorem item_iok {s : List UInt8} (hn : Q.numB s = true) {u : Int} (h : Lib.parseIntB 64 s = .ok u) : Q.itemV false s = some u := by
  unfold Q.itemV Q.intV
  rw [if_pos hn, h]; rfl
theorem uint_lt {l : List UInt8} {u : Nat} (h : Lib.parseUintB 32 l = .ok u) : u < 4294967296 := by
  have key : ∀ (l : List UInt8) (acc u : Nat), acc < 4294967296 → Lib.parseUintM (2 ^ 32 - 1) acc l = .ok u → u < 4294967296 := by
    intro l
    induction l with
    | nil => intro acc u ha h; rw [Lib.parseUintM] at h; injection h with h; omega
    | cons c r ih =>
      intro acc u ha h
      rw [Lib.parseUintM] at h
      split at h
      · split at h
        · cases h
        · split at h
          · cases h
          · exact ih _ _ (by omega) h
      · cases h
  unfold Lib.parseUintB at h
  split at h
  · cases h
  · exact key l 0 u (by omega) h
theorem next_items {b : Bool} {k : Nat} {L' : List (Value × List Int)} {p : Value × List Int} {v : Value} {x : Int} {s : List UInt8} {r : List (List UInt8)} {z : Int × List (List Int)} (hp : L'[k]? = some p) (h : Q.items b k (L'.map (·.2)) (s :: r) = z) (hx : Q.itemV b s = some x) :
    Q.items b k ((L'.set k (v, p.2 ++ [x])).map (·.2)) r = z := by
  rw [items_cons b k _ s r hx] at h
  rw [List.map_set, ← h]
  congr 2
  rw [List.getD_eq_getElem?_getD, List.getElem?_map, hp]
  rfl
theorem set_bound {L' : List (Value × List Int)} {k : Nat} {p q : Value × List Int} {n i B : Nat} (hp : L'[k]? = some p) (hq : q.2.length = p.2.length + 1) (hi : i < n) (h : ∀ p ∈ L', p.2.length + (n - i) ≤ B) : ∀ p ∈ L'.set k q, p.2.length + (n - (i + 1)) ≤ B := by
  intro y hy
  rcases List.mem_or_eq_of_mem_set hy with hy | rfl
  · have := h y hy; omega
  · have := h p (List.mem_of_getElem? hp); omega
theorem intOf_is (x : Int) : intOf (.int .i64 x) = x := rfl
theorem sub_less {i n : Nat} (h : i < n) : n - (i + 1) < n - i := by omega
theorem meas {i n : Nat} (h : i < n) (w : wrap64 ((i : Int) + 1) = ((i + 1 : Nat) : Int)) : n - (intOf (.int .i64 (wrap64 ((i : Int) + 1)))).toNat < n - (intOf (.int .i64 (i : Int))).toNat := by
  rw [intOf_is, intOf_is, w, Int.toNat_natCast, Int.toNat_natCast]; exact sub_less h
theorem dom_none {n : Nat} {s : List UInt8} (h : ¬ ∃ v, Lib.atoiAll s = .ok v) : Q.domV n s = none := by
  unfold Q.domV
  cases hc : Lib.atoiAll s with
  | ok v => exact absurd ⟨v, hc⟩ h
  | _ => rfl
theorem dom_out {n : Nat} {s : List UInt8} {v : Int} (h : Lib.atoiAll s = .ok v) (h2 : ¬ (0 ≤ v ∧ v < n)) : Q.domV n s = none := by
  unfold Q.domV
  rw [h]; exact if_neg h2
theorem dom_in {n : Nat} {s : List UInt8} {d : Nat} (h : Lib.atoiAll s = .ok (d : Int)) (h2 : d < n) : Q.domV n s = some d := by
  unfold Q.domV
  rw [h]
  simp only
  rw [if_pos ⟨by omega, by omega⟩, Int.toNat_natCast]
set_option maxHeartbeats 4000000 in
set_option maxRecDepth 100000 in
theorem read_steal {w0 W : World} {gr gl gm gs gw n m c : Nat} {L : List (Value × List Int)} {curs cur : Array Value} {had : List UInt8 → Bool} {hd : List Bool} (s0 : ByteArray) (t : List ByteArray)
    (M0 : ROf w0 W gr gl gm gs gw n m L curs cur had)
    (S0 : Std w0) (hL : L.length = 2 * n) (hn : n ≤ 16) (hcur : ∀ (i : Nat) p, (s0 :: t)[i]? = some p → cur[i]? = some (.string p)) (hsz : ∀ p ∈ s0 :: t, p.size ≤ 262144) (hlen : t.length ≤ 262144)
    (hcap : t.length + 1 ≤ c) (hbig : ∀ p ∈ L, p.2.length + t.length ≤ 137438953472) (hm : m < 1000000) (hR : Q.HadR n had hd) (a0 : s0.data.toList = Q.stealW) :
    Calls Tryd.prog 32 #[.pointer (some ⟨gr, 0, none⟩), .slice (some ⟨gw, 0, none⟩) (t.length + 1) c] W
      (LineRead w0 gr gl gm gs gw n m L curs cur (Q.step n (L.map (·.2)) hd ((s0 :: t).map (·.data.toList)))) := by
  have M : Aside0 (MemO Tryd.prog [36, 2] w0 W [(gr, #[.slice (some ⟨gl, 0, none⟩) n n, .map (some gm), .int .i64 0], 51), (gl, cellsL L, 32), (gs, curs, 9), (gw, cur, 9)] (rowsOf true L) gm m had) := Aside0.mk M0
  have x0 := word_at M0 (hcur 0 s0 rfl)
  have S := Lib.hid S0
  have HL := Lib.hid hL
  have HC := Lib.hid hcur
  have HZ := Lib.hid hsz
  have HB := Lib.hid hbig
  have HR := Lib.hid hR
  have HM := Lib.hid hm
  have HLE := Lib.hid hlen
  have HCAP := Lib.hid hcap
  clear S0 hL hcur hsz hbig hR hm hlen hcap M0
  have e0 : (s0.toList == [115, 116, 101, 97, 108]) = true := by rw [ByteArray.toList_eq, a0]; rfl
  have e1 : s0.toList = [115, 116, 101, 97, 108] := by rw [ByteArray.toList_eq, a0]; rfl
  have A0 := Lib.hid a0
  clear a0
  cases t with
  | nil =>
    go_enter Tryd.func32, Tryd.ntmps32
    go_wp2
    go_ret
    exact left M.out HR.out 190
  | cons s1 r =>
    have x1 := word_at M.out (HC.out 1 s1 rfl)
    have z0 := HZ.out s0 (by simp)
    have z1 := HZ.out s1 (by simp)
    have HNU := Lib.hid (fun W => number_calls s1 z1 W)
    have HLE2 := HLE.out
    have hl2 : decide ((r.length : Int) + 1 + 1 < 2) = false := decide_eq_false (by omega)
    have hl3 : ((1 : Int) < (r.length : Int) + 1 + 1) = True := eq_true (by omega)
    go_enter Tryd.func32, Tryd.ntmps32
    go_wp2_with fail
    refine (HNU.out _).mono ?_
    rintro e W33 ⟨rfl, hb⟩
    have M1 := Aside0.mk (MemO.call M.out hb)
    clear M hb x0 x1
    cases hnb : Q.numB s1.data.toList with
    | false =>
      have HV := Lib.hid (step_head n (L.map (·.2)) hd s0.data.toList s1.data.toList (r.map (·.data.toList)) (fun h => by rw [hnb] at h; exact absurd h.2 (by simp)))
      go_wp2
      go_ret
      have hv := HV.out
      simp only [List.map_cons]
      rw [hv]
      exact left M1.out HR.out 190
    | true =>
      have HNB := Lib.hid hnb
      clear hnb
      have x1 := word_at M1.out (HC.out 1 s1 rfl)
      have HHD : RowKit.Hid ((s0.data.toList = Q.stealW ∨ s0.data.toList = Q.inputW) ∧ Q.numB s1.data.toList = true) := Lib.hid ⟨(.inl A0.out), HNB.out⟩
      by_cases hgood : ∃ v, Lib.atoiAll s1.data.toList = .ok v
      · obtain ⟨v, hv⟩ := hgood
        have HAT := Lib.hid (fun (W : World) (h : Std W) => atoi_ok h s1 z1 v hv)
        have HVV := Lib.hid hv
        clear hv
        by_cases hneg : v < 0
        · have HV := Lib.hid (step_dom n (L.map (·.2)) hd s0.data.toList s1.data.toList (r.map (·.data.toList)) HHD.out (dom_out HVV.out (fun h => by omega)))
          have dneg : decide (v < 0) = true := decide_eq_true hneg
          clear hneg
          go_wp2_with fail
          refine (HAT.out _ (S.out.below M1.out.mem.below)).mono ?_
          rintro e W40 ⟨rfl, hb⟩
          have M2 := Aside0.mk (MemO.call M1.out hb)
          clear M1 hb x1
          go_wp2_with fail
          go_quiet (fail)
          go_wp2
          go_ret
          simp only [List.map_cons]
          rw [HV.out]
          exact left (MemO.drewN M2.out _) HR.out 191
        · have dneg : decide (v < 0) = false := decide_eq_false hneg
          by_cases hbig : (n : Int) ≤ v
          · have HV := Lib.hid (step_dom n (L.map (·.2)) hd s0.data.toList s1.data.toList (r.map (·.data.toList)) HHD.out (dom_out HVV.out (fun h => by omega)))
            have dbig : decide ((n : Int) ≤ v) = true := decide_eq_true hbig
            have dbig2 : decide (v ≥ (n : Int)) = true := decide_eq_true hbig
            clear hneg hbig
            go_wp2_with fail
            refine (HAT.out _ (S.out.below M1.out.mem.below)).mono ?_
            rintro e W40 ⟨rfl, hb⟩
            have M2 := Aside0.mk (MemO.call M1.out hb)
            clear M1 hb x1
            have xr0 := (cells_of M2.out).1
            go_wp2_with fail
            go_quiet (fail)
            clear xr0
            go_wp2
            go_ret
            simp only [List.map_cons]
            rw [HV.out]
            exact left (MemO.drewN M2.out _) HR.out 191
          · obtain ⟨d, rfl⟩ : ∃ d : Nat, v = (d : Int) := ⟨v.toNat, by omega⟩
            have hdn : d < n := by omega
            have dbig : decide ((n : Int) ≤ (d : Int)) = false := decide_eq_false hbig
            have dbig2 : decide ((d : Int) ≥ (n : Int)) = false := decide_eq_false hbig
            have dbig3 : decide (n ≤ d) = false := decide_eq_false (by omega)
            have HDN := Lib.hid hdn
            have HS1 := Lib.hid (show s1.data.toList = Lib.decDigits d by have := Q.dom_dec HNB.out HVV.out (by omega); rwa [Int.toNat_natCast] at this)
            have HKEY := Lib.hid (show (s0 ++ s1).data.toList = (if true then Q.stealW else Q.inputW) ++ Lib.decDigits d by rw [← HS1.out]; simp [A0.out])
            clear hneg hbig dneg hdn
            have dneg : decide ((d : Int) < 0) = false := decide_eq_false (by omega)
            go_wp2_with fail
            refine (HAT.out _ (S.out.below M1.out.mem.below)).mono ?_
            rintro e W40 ⟨rfl, hb⟩
            have M2 := Aside0.mk (MemO.call M1.out hb)
            clear M1 hb x1
            have xr0 := (cells_of M2.out).1
            have xr1 := (cells_of M2.out).2
            have x0 := word_at M2.out (HC.out 0 s0 rfl)
            have x1 := word_at M2.out (HC.out 1 s1 rfl)
            have hlk : ∀ k, (Instr.lookup 49 (.map (some gm)) (.string (s0 ++ s1)) false).run Tryd.prog (W40.drewN k) = .ok (.bool (had (s0 ++ s1).data.toList)) (W40.drewN k) := fun k => (M2.out.drewN k).look Tryd.underlying4 Tryd.underlying9 (by kernel_rfl) (s0 ++ s1) (by rw [ByteArray.size_append]; unfold maxLen; omega) (by kernel_rfl)
            have HHAD := Lib.hid (show had (s0 ++ s1).data.toList = hd.getD (Q.slot d true) false by rw [HKEY.out]; exact HR.out.2 d HDN.out true)
            rw [HHAD.out] at hlk
            go_wp2_with fail
            cases hh : hd.getD (Q.slot d true) false with
            | true =>
              rw [hh] at hlk
              go_quiet (fail)
              have HV := Lib.hid (step_had n (L.map (·.2)) hd s0.data.toList s1.data.toList (r.map (·.data.toList)) HHD.out (dom_in HVV.out HDN.out) (by rw [show decide (s0.data.toList = Q.stealW) = true from decide_eq_true A0.out]; exact hh))
              clear hh hlk xr0 xr1 x0 x1
              go_wp2
              go_ret
              simp only [List.map_cons]
              rw [HV.out]
              exact left (MemO.drewN M2.out _) HR.out 191
            | false =>
              have HV : RowKit.Hid (Q.step n (L.map (·.2)) hd (s0.data.toList :: s1.data.toList :: r.map (·.data.toList)) = ((Q.items true (d * 2) (L.map (·.2)) (r.map (·.data.toList))).1, (Q.items true (d * 2) (L.map (·.2)) (r.map (·.data.toList))).2, hd.set (Q.slot d true) true)) := Lib.hid (by
                have h := step_items n (L.map (·.2)) hd s0.data.toList s1.data.toList (r.map (·.data.toList)) HHD.out (dom_in HVV.out HDN.out) (by rw [show decide (s0.data.toList = Q.stealW) = true from decide_eq_true A0.out]; exact hh)
                rw [show decide (s0.data.toList = Q.stealW) = true from decide_eq_true A0.out, show Q.slot d true = (d * 2) from slot_steal d] at h
                rw [show Q.slot d true = (d * 2) from slot_steal d]
                exact h)
              rw [hh] at hlk
              go_quiet (fail)
              have M3 := Aside0.mk (MemO.drewN M2.out nq)
              clear M2 hlk xr0 xr1 x0 x1 hh
              revert M3
              generalize W40.drewN nq = W3
              intro M3
              have xr1 := (cells_of M3.out).2
              have x0 := word_at M3.out (HC.out 0 s0 rfl)
              have x1 := word_at M3.out (HC.out 1 s1 rfl)
              go_wp2_with fail
              have hl0 : ((0 : Int) < (r.length : Int) + 1 + 1) = True := eq_true (by omega)
              have hov : (9223372036854775807 < s0.size + s1.size) = False := eq_false (Nat.not_lt.2 (by omega))
              go_still_tail 11, (by kernel_rfl)
              clear hov
              change wpList _ _ _ _ _ W3.drew
              have M4 := Aside0.mk (MemO.call M3.out (below_drew1 (Below.refl _ _)))
              clear M3 xr1 x0 x1
              refine oM M4 Tryd.underlying4 Tryd.underlying9 (t := 49) (by kernel_rfl) (s0 ++ s1) (by rw [ByteArray.size_append]; unfold maxLen; omega) (by have := HM.out; unfold maxLen; omega) ?_
              clear M4
              intro W5 M5
              rw [HKEY.out] at M5
              have xr0 := (cells_of M5.out).1
              have hd0 : (0 ≤ (d : Int)) = True := eq_true (by omega)
              have hd1 : ((d : Int) < (n : Int)) = True := eq_true (by have := HDN.out; omega)
              have hs2 : ((2 : Int) ≤ (r.length : Int) + 1 + 1) = True := eq_true (by omega)
              have HK := Lib.hid (show (d * 2) < L.length by have h1 := HL.out; have h2 := HDN.out; omega)
              have HW : RowKit.Hid (Q.slot d true = (d * 2)) := Lib.hid (slot_steal d)
              have HHR := Lib.hid (HR.out.put HDN.out true)
              by_cases hr0 : r = []
              · subst hr0
                go_wp2_with fail
                all_goals
                  go_loopw [92] (fun v92 wr => v92 = .int .i64 0 ∧ wr = W5) (fun _ _ => 0)
                  case atStart => exact ⟨rfl, rfl⟩
                  obtain ⟨rfl, rfl⟩ := hrel
                  go_wp2
                  go_ret
                  have hv := HV.out
                  simp only [List.map_nil] at hv
                  simp only [List.map_cons, List.map_nil]
                  rw [hv]
                  exact ⟨L, _, rfl, M5.out, rfl, rfl, HHR.out⟩
              · have hc2 : ¬ c = 2 := fun e => by
                  have := HCAP.out
                  have : r.length ≠ 0 := fun e => hr0 (List.length_eq_zero_iff.1 e)
                  simp only [List.length_cons] at *; omega
                have hc3 : (c = 2) = False := eq_false hc2
                have hc4 : (2 = c) = False := eq_false (fun e => hc2 e.symm)
                clear hr0 hc2
                go_wp2_with fail
                go_loopw [92] (fun v92 wr => ∃ (i : Nat) (L' : List (Value × List Int)), i ≤ r.length ∧ v92 = .int .i64 i ∧ L'.length = L.length ∧ (∀ p ∈ L', p.2.length + (r.length - i) ≤ 137438953472) ∧ Q.items true (d * 2) (L'.map (·.2)) ((r.map (·.data.toList)).drop i) = Q.items true (d * 2) (L.map (·.2)) (r.map (·.data.toList)) ∧ MemO Tryd.prog [36, 2] w0 wr [(gr, #[.slice (some ⟨gl, 0, none⟩) n n, .map (some gm), .int .i64 0], 51), (gl, cellsL L', 32), (gs, curs, 9), (gw, cur, 9)] (rowsOf true L') gm (m + 1) (fun k => k == (if true = true then Q.stealW else Q.inputW) ++ Lib.decDigits d || had k)) (fun v92 _ => r.length - (intOf v92).toNat)
                case atStart => exact ⟨0, L, by omega, rfl, rfl, fun p hp => by have := HB.out p hp; simp only [List.length_cons] at this; omega, by rw [List.drop_zero], M5.out⟩
                obtain ⟨i, L', hi, rfl, hLL, hbg, hit, M⟩ := hrel
                have M6 := Aside0.mk M
                have HBG := Lib.hid hbg
                have HIT := Lib.hid hit
                have HLL := Lib.hid hLL
                clear M M5 hbg hit hLL xr0
                by_cases hir : i < r.length
                · obtain ⟨s, hs⟩ : ∃ s, r[i]? = some s := ⟨_, List.getElem?_eq_getElem hir⟩
                  have hcs : cur[2 + i]? = some (.string s) := HC.out (2 + i) s (by rw [show 2 + i = i + 1 + 1 by omega]; exact hs)
                  have xs := word_at M6.out hcs
                  have xw0 := word_at M6.out (HC.out 0 s0 rfl)
                  have zs := HZ.out s (List.mem_cons_of_mem _ (List.mem_cons_of_mem _ (List.mem_of_getElem? hs)))
                  have HDR := Lib.hid (show (r.map (·.data.toList)).drop i = s.data.toList :: (r.map (·.data.toList)).drop (i + 1) by
                    rw [List.drop_eq_getElem_cons (by rw [List.length_map]; exact hir)]
                    congr 1
                    rw [List.getElem_map]
                    have := List.getElem?_eq_getElem hir
                    rw [hs] at this
                    rw [← Option.some.inj this])
                  have q2 : (i : Int) < (r.length : Int) := by omega
                  have HIR := Lib.hid hir
                  have W1 := Lib.hid (show wrap64 ((i : Int) + 1) = ((i + 1 : Nat) : Int) by rw [Int.natCast_add]; exact IntWalk.wrap64_in _ (by have := HLE2; simp only [List.length_cons] at this; omega))
                  have HNU2 := Lib.hid (fun W => number_calls s zs W)
                  have HST := Lib.hid hs
                  clear hs
                  go_wp2_with fail
                  refine (HNU2.out _).mono ?_
                  rintro e W97 ⟨rfl, hb⟩
                  have M7 := Aside0.mk (MemO.call M6.out hb)
                  clear M6 hb xs xw0
                  cases hnb2 : Q.numB s.data.toList with
                  | false =>
                    have HE := Lib.hid (show Q.items true (d * 2) (L.map (·.2)) (r.map (·.data.toList)) = (190, L'.map (·.2)) by rw [← HIT.out, HDR.out]; exact items_stop _ _ _ _ _ (item_num hnb2))
                    clear hnb2
                    go_wp2
                    go_ret
                    simp only [List.map_cons]
                    rw [HV.out, HE.out]
                    exact ⟨L', _, rfl, M7.out, HLL.out, rfl, HHR.out⟩
                  | true =>
                    have xw0 := word_at M7.out (HC.out 0 s0 rfl)
                    have HNB2 := Lib.hid hnb2
                    clear hnb2
                    by_cases hgo : ∃ u, Lib.parseUintB 32 s.data.toList = .ok u
                    · obtain ⟨u, hu⟩ := hgo
                      have HOK := Lib.hid (fun (W : World) (h : Std W) => uint_ok h s zs u hu)
                      have HUV := Lib.hid (item_uok HNB2.out hu)
                      have hult := uint_lt hu
                      clear hu
                      obtain ⟨p, hp⟩ : ∃ p, L'[(d * 2)]? = some p := ⟨_, List.getElem?_eq_getElem (by rw [HLL.out]; exact HK.out)⟩
                      have hpc := cellsL_get L' (d * 2) hp
                      have HPL := Lib.hid (HBG.out p (List.mem_of_getElem? hp))
                      have HPP := Lib.hid hp
                      clear hp
                      go_wp2_with fail
                      refine (HOK.out _ (S.out.below M7.out.mem.below)).mono ?_
                      rintro e W105 ⟨rfl, hb⟩
                      have M8 := Aside0.mk (MemO.call M7.out hb)
                      clear M7 hb xw0
                      have xc : W105.cell? ⟨gl, (d * 2), none⟩ = some p.1 := (M8.out.mem.cell 1 rfl (d * 2)).trans hpc
                      have MF : Aside0 (MemO Tryd.prog [36, 2] w0 W105 [(gr, #[.slice (some ⟨gl, 0, none⟩) n n, .map (some gm), .int .i64 0], 51), (gl, cellsL L', 32), (gs, curs, 9), (gw, cur, 9)] (⟨Kd.int .u32, 36, p.1, p.2⟩ :: (rowsOf true L').eraseIdx (d * 2)) gm (m + 1) (fun k => k == (if true = true then Q.stealW else Q.inputW) ++ Lib.decDigits d || had k)) := by
                        have h := front_row M8.out (d * 2) HPP.out
                        rw [par_steal d] at h
                        exact ⟨h⟩
                      clear M8
                      have HL64 := Lib.hid (show (p.2.length + 1) * 4 ≤ 140737488355328 by have := HPL.out; omega)
                      have hjj : ((cellsL L')[(d * 2)]?).isSome = true := by rw [hpc]; rfl
                      go_wp2_with (first
                        | ((with_reducible refine gate_builtin (b := .append) (xs := #[.tmp 114, .tmp 117]) rfl ?_); at_builtin; refine oA MF 118 (u : Int) 4 HL64.out ?_; clear MF xc; intro v5 W118 M9)
                        | ((with_reducible refine gate_store (t := 29) (p := 120) rfl ?_); refine oS M9 29 120 1 (d * 2) v5 (cellsL (L'.set (d * 2) (v5, p.2 ++ [(u : Int)]))) ?_ rfl hjj (slice_one M9.out) (cellsL_set L' (d * 2) (v5, p.2 ++ [(u : Int)])); clear M9 hjj; intro W120 M10))
                      go_roundw
                      case rel => exact ⟨i + 1, L'.set (d * 2) (v5, p.2 ++ [(u : Int)]), by have := HIR.out; omega, by rw [W1.out], by rw [List.length_set]; exact HLL.out, set_bound HPP.out (by simp) HIR.out HBG.out, next_items HPP.out (by rw [← HDR.out]; exact HIT.out) HUV.out, back_row (d * 2) (by rw [HLL.out]; exact HK.out) (v5, p.2 ++ [(u : Int)]) (by rw [par_steal d]; exact M10.out)⟩
                      case measure => exact meas HIR.out W1.out
                    · have HOK := Lib.hid (fun (W : World) (h : Std W) => uint_bad h s zs hgo)
                      have HE := Lib.hid (show Q.items true (d * 2) (L.map (·.2)) (r.map (·.data.toList)) = (190, L'.map (·.2)) by rw [← HIT.out, HDR.out]; exact items_stop _ _ _ _ _ (item_ubad hgo))
                      clear hgo
                      go_wp2_with fail
                      refine (HOK.out _ (S.out.below M7.out.mem.below)).mono ?_
                      rintro e W105 ⟨u105, te, pe, rfl, hb⟩
                      have M8 := Aside0.mk (MemO.call M7.out hb)
                      clear M7 hb xw0
                      go_wp2
                      go_ret
                      simp only [List.map_cons]
                      rw [HV.out, HE.out]
                      exact ⟨L', _, rfl, M8.out, HLL.out, rfl, HHR.out⟩
                · have q2 : ¬ (i : Int) < (r.length : Int) := by omega
                  have HE := Lib.hid (show Q.items true (d * 2) (L.map (·.2)) (r.map (·.data.toList)) = (0, L'.map (·.2)) by rw [← HIT.out, List.drop_eq_nil_of_le (by rw [List.length_map]; omega)]; rfl)
                  go_wp2
                  go_ret
                  simp only [List.map_cons]
                  rw [HV.out, HE.out]
                  exact ⟨L', _, rfl, M6.out, HLL.out, rfl, HHR.out⟩
      · have HV := Lib.hid (step_dom n (L.map (·.2)) hd s0.data.toList s1.data.toList (r.map (·.data.toList)) HHD.out (dom_none hgood))
        have HAT := Lib.hid (fun (W : World) (h : Std W) => atoi_bad h s1 z1 hgood)
        clear hgood
        go_wp2_with fail
        refine (HAT.out _ (S.out.below M1.out.mem.below)).mono ?_
        rintro e W40 ⟨u40, te, pe, rfl, hb⟩
        have M2 := Aside0.mk (MemO.call M1.out hb)
        clear M1 hb x1
        go_wp2_with fail
        go_quiet (fail)
        go_wp2
        go_ret
        simp only [List.map_cons]
        rw [HV.out]
        exact left (MemO.drewN M2.out _) HR.out 191
set_option maxHeartbeats 4000000 in
set_option maxRecDepth 100000 in
theorem read_input {w0 W : World} {gr gl gm gs gw n m c : Nat} {L : List (Value × List Int)} {curs cur : Array Value} {had : List UInt8 → Bool} {hd : List Bool} (s0 : ByteArray) (t : List ByteArray)
    (M0 : ROf w0 W gr gl gm gs gw n m L curs cur had)
    (S0 : Std w0) (hL : L.length = 2 * n) (hn : n ≤ 16) (hcur : ∀ (i : Nat) p, (s0 :: t)[i]? = some p → cur[i]? = some (.string p)) (hsz : ∀ p ∈ s0 :: t, p.size ≤ 262144) (hlen : t.length ≤ 262144)
    (hcap : t.length + 1 ≤ c) (hbig : ∀ p ∈ L, p.2.length + t.length ≤ 137438953472) (hm : m < 1000000) (hR : Q.HadR n had hd) (a0 : ¬ s0.data.toList = Q.stealW) (a1 : s0.data.toList = Q.inputW) :
    Calls Tryd.prog 32 #[.pointer (some ⟨gr, 0, none⟩), .slice (some ⟨gw, 0, none⟩) (t.length + 1) c] W
      (LineRead w0 gr gl gm gs gw n m L curs cur (Q.step n (L.map (·.2)) hd ((s0 :: t).map (·.data.toList)))) := by
  have M : Aside0 (MemO Tryd.prog [36, 2] w0 W [(gr, #[.slice (some ⟨gl, 0, none⟩) n n, .map (some gm), .int .i64 0], 51), (gl, cellsL L, 32), (gs, curs, 9), (gw, cur, 9)] (rowsOf true L) gm m had) := Aside0.mk M0
  have x0 := word_at M0 (hcur 0 s0 rfl)
  have S := Lib.hid S0
  have HL := Lib.hid hL
  have HC := Lib.hid hcur
  have HZ := Lib.hid hsz
  have HB := Lib.hid hbig
  have HR := Lib.hid hR
  have HM := Lib.hid hm
  have HLE := Lib.hid hlen
  have HCAP := Lib.hid hcap
  clear S0 hL hcur hsz hbig hR hm hlen hcap M0
  have e0 : (s0.toList == [115, 116, 101, 97, 108]) = false := by rw [ByteArray.toList_eq]; exact beq_eq_false_iff_ne.mpr a0
  have A0 := Lib.hid a0
  have e2 : (s0.toList == [105, 110, 112, 117, 116]) = true := by rw [ByteArray.toList_eq, a1]; rfl
  have e3 : s0.toList = [105, 110, 112, 117, 116] := by rw [ByteArray.toList_eq, a1]; rfl
  have A1 := Lib.hid a1
  clear a0 a1
  cases t with
  | nil =>
    go_enter Tryd.func32, Tryd.ntmps32
    go_wp2
    go_ret
    exact left M.out HR.out 190
  | cons s1 r =>
    have x1 := word_at M.out (HC.out 1 s1 rfl)
    have z0 := HZ.out s0 (by simp)
    have z1 := HZ.out s1 (by simp)
    have HNU := Lib.hid (fun W => number_calls s1 z1 W)
    have HLE2 := HLE.out
    have hl2 : decide ((r.length : Int) + 1 + 1 < 2) = false := decide_eq_false (by omega)
    have hl3 : ((1 : Int) < (r.length : Int) + 1 + 1) = True := eq_true (by omega)
    go_enter Tryd.func32, Tryd.ntmps32
    go_wp2_with fail
    refine (HNU.out _).mono ?_
    rintro e W33 ⟨rfl, hb⟩
    have M1 := Aside0.mk (MemO.call M.out hb)
    clear M hb x0 x1
    cases hnb : Q.numB s1.data.toList with
    | false =>
      have HV := Lib.hid (step_head n (L.map (·.2)) hd s0.data.toList s1.data.toList (r.map (·.data.toList)) (fun h => by rw [hnb] at h; exact absurd h.2 (by simp)))
      go_wp2
      go_ret
      have hv := HV.out
      simp only [List.map_cons]
      rw [hv]
      exact left M1.out HR.out 190
    | true =>
      have HNB := Lib.hid hnb
      clear hnb
      have x1 := word_at M1.out (HC.out 1 s1 rfl)
      have HHD : RowKit.Hid ((s0.data.toList = Q.stealW ∨ s0.data.toList = Q.inputW) ∧ Q.numB s1.data.toList = true) := Lib.hid ⟨(.inr A1.out), HNB.out⟩
      by_cases hgood : ∃ v, Lib.atoiAll s1.data.toList = .ok v
      · obtain ⟨v, hv⟩ := hgood
        have HAT := Lib.hid (fun (W : World) (h : Std W) => atoi_ok h s1 z1 v hv)
        have HVV := Lib.hid hv
        clear hv
        by_cases hneg : v < 0
        · have HV := Lib.hid (step_dom n (L.map (·.2)) hd s0.data.toList s1.data.toList (r.map (·.data.toList)) HHD.out (dom_out HVV.out (fun h => by omega)))
          have dneg : decide (v < 0) = true := decide_eq_true hneg
          clear hneg
          go_wp2_with fail
          refine (HAT.out _ (S.out.below M1.out.mem.below)).mono ?_
          rintro e W40 ⟨rfl, hb⟩
          have M2 := Aside0.mk (MemO.call M1.out hb)
          clear M1 hb x1
          go_wp2_with fail
          go_quiet (fail)
          go_wp2
          go_ret
          simp only [List.map_cons]
          rw [HV.out]
          exact left (MemO.drewN M2.out _) HR.out 191
        · have dneg : decide (v < 0) = false := decide_eq_false hneg
          by_cases hbig : (n : Int) ≤ v
          · have HV := Lib.hid (step_dom n (L.map (·.2)) hd s0.data.toList s1.data.toList (r.map (·.data.toList)) HHD.out (dom_out HVV.out (fun h => by omega)))
            have dbig : decide ((n : Int) ≤ v) = true := decide_eq_true hbig
            have dbig2 : decide (v ≥ (n : Int)) = true := decide_eq_true hbig
            clear hneg hbig
            go_wp2_with fail
            refine (HAT.out _ (S.out.below M1.out.mem.below)).mono ?_
            rintro e W40 ⟨rfl, hb⟩
            have M2 := Aside0.mk (MemO.call M1.out hb)
            clear M1 hb x1
            have xr0 := (cells_of M2.out).1
            go_wp2_with fail
            go_quiet (fail)
            clear xr0
            go_wp2
            go_ret
            simp only [List.map_cons]
            rw [HV.out]
            exact left (MemO.drewN M2.out _) HR.out 191
          · obtain ⟨d, rfl⟩ : ∃ d : Nat, v = (d : Int) := ⟨v.toNat, by omega⟩
            have hdn : d < n := by omega
            have dbig : decide ((n : Int) ≤ (d : Int)) = false := decide_eq_false hbig
            have dbig2 : decide ((d : Int) ≥ (n : Int)) = false := decide_eq_false hbig
            have dbig3 : decide (n ≤ d) = false := decide_eq_false (by omega)
            have HDN := Lib.hid hdn
            have HS1 := Lib.hid (show s1.data.toList = Lib.decDigits d by have := Q.dom_dec HNB.out HVV.out (by omega); rwa [Int.toNat_natCast] at this)
            have HKEY := Lib.hid (show (s0 ++ s1).data.toList = (if false then Q.stealW else Q.inputW) ++ Lib.decDigits d by rw [← HS1.out]; simp [A1.out])
            clear hneg hbig dneg hdn
            have dneg : decide ((d : Int) < 0) = false := decide_eq_false (by omega)
            go_wp2_with fail
            refine (HAT.out _ (S.out.below M1.out.mem.below)).mono ?_
            rintro e W40 ⟨rfl, hb⟩
            have M2 := Aside0.mk (MemO.call M1.out hb)
            clear M1 hb x1
            have xr0 := (cells_of M2.out).1
            have xr1 := (cells_of M2.out).2
            have x0 := word_at M2.out (HC.out 0 s0 rfl)
            have x1 := word_at M2.out (HC.out 1 s1 rfl)
            have hlk : ∀ k, (Instr.lookup 49 (.map (some gm)) (.string (s0 ++ s1)) false).run Tryd.prog (W40.drewN k) = .ok (.bool (had (s0 ++ s1).data.toList)) (W40.drewN k) := fun k => (M2.out.drewN k).look Tryd.underlying4 Tryd.underlying9 (by kernel_rfl) (s0 ++ s1) (by rw [ByteArray.size_append]; unfold maxLen; omega) (by kernel_rfl)
            have HHAD := Lib.hid (show had (s0 ++ s1).data.toList = hd.getD (Q.slot d false) false by rw [HKEY.out]; exact HR.out.2 d HDN.out false)
            rw [HHAD.out] at hlk
            go_wp2_with fail
            cases hh : hd.getD (Q.slot d false) false with
            | true =>
              rw [hh] at hlk
              go_quiet (fail)
              have HV := Lib.hid (step_had n (L.map (·.2)) hd s0.data.toList s1.data.toList (r.map (·.data.toList)) HHD.out (dom_in HVV.out HDN.out) (by rw [show decide (s0.data.toList = Q.stealW) = false from decide_eq_false A0.out]; exact hh))
              clear hh hlk xr0 xr1 x0 x1
              go_wp2
              go_ret
              simp only [List.map_cons]
              rw [HV.out]
              exact left (MemO.drewN M2.out _) HR.out 191
            | false =>
              have HV : RowKit.Hid (Q.step n (L.map (·.2)) hd (s0.data.toList :: s1.data.toList :: r.map (·.data.toList)) = ((Q.items false (d * 2 + 1) (L.map (·.2)) (r.map (·.data.toList))).1, (Q.items false (d * 2 + 1) (L.map (·.2)) (r.map (·.data.toList))).2, hd.set (Q.slot d false) true)) := Lib.hid (by
                have h := step_items n (L.map (·.2)) hd s0.data.toList s1.data.toList (r.map (·.data.toList)) HHD.out (dom_in HVV.out HDN.out) (by rw [show decide (s0.data.toList = Q.stealW) = false from decide_eq_false A0.out]; exact hh)
                rw [show decide (s0.data.toList = Q.stealW) = false from decide_eq_false A0.out, show Q.slot d false = (d * 2 + 1) from slot_input d] at h
                rw [show Q.slot d false = (d * 2 + 1) from slot_input d]
                exact h)
              rw [hh] at hlk
              go_quiet (fail)
              have M3 := Aside0.mk (MemO.drewN M2.out nq)
              clear M2 hlk xr0 xr1 x0 x1 hh
              revert M3
              generalize W40.drewN nq = W3
              intro M3
              have xr1 := (cells_of M3.out).2
              have x0 := word_at M3.out (HC.out 0 s0 rfl)
              have x1 := word_at M3.out (HC.out 1 s1 rfl)
              go_wp2_with fail
              have hl0 : ((0 : Int) < (r.length : Int) + 1 + 1) = True := eq_true (by omega)
              have hov : (9223372036854775807 < s0.size + s1.size) = False := eq_false (Nat.not_lt.2 (by omega))
              go_still_tail 11, (by kernel_rfl)
              clear hov
              change wpList _ _ _ _ _ W3.drew
              have M4 := Aside0.mk (MemO.call M3.out (below_drew1 (Below.refl _ _)))
              clear M3 xr1 x0 x1
              refine oM M4 Tryd.underlying4 Tryd.underlying9 (t := 49) (by kernel_rfl) (s0 ++ s1) (by rw [ByteArray.size_append]; unfold maxLen; omega) (by have := HM.out; unfold maxLen; omega) ?_
              clear M4
              intro W5 M5
              rw [HKEY.out] at M5
              have xr0 := (cells_of M5.out).1
              have hd0 : (0 ≤ (d : Int)) = True := eq_true (by omega)
              have hd1 : ((d : Int) < (n : Int)) = True := eq_true (by have := HDN.out; omega)
              have hs2 : ((2 : Int) ≤ (r.length : Int) + 1 + 1) = True := eq_true (by omega)
              have HK := Lib.hid (show (d * 2 + 1) < L.length by have h1 := HL.out; have h2 := HDN.out; omega)
              have HW : RowKit.Hid (Q.slot d false = (d * 2 + 1)) := Lib.hid (slot_input d)
              have HHR := Lib.hid (HR.out.put HDN.out false)
              by_cases hr0 : r = []
              · subst hr0
                go_wp2_with fail
                all_goals
                  go_loopw [92] (fun v92 wr => v92 = .int .i64 0 ∧ wr = W5) (fun _ _ => 0)
                  case atStart => exact ⟨rfl, rfl⟩
                  obtain ⟨rfl, rfl⟩ := hrel
                  go_wp2
                  go_ret
                  have hv := HV.out
                  simp only [List.map_nil] at hv
                  simp only [List.map_cons, List.map_nil]
                  rw [hv]
                  exact ⟨L, _, rfl, M5.out, rfl, rfl, HHR.out⟩
              · have hc2 : ¬ c = 2 := fun e => by
                  have := HCAP.out
                  have : r.length ≠ 0 := fun e => hr0 (List.length_eq_zero_iff.1 e)
                  simp only [List.length_cons] at *; omega
                have hc3 : (c = 2) = False := eq_false hc2
                have hc4 : (2 = c) = False := eq_false (fun e => hc2 e.symm)
                clear hr0 hc2
                go_wp2_with fail
                go_loopw [92] (fun v92 wr => ∃ (i : Nat) (L' : List (Value × List Int)), i ≤ r.length ∧ v92 = .int .i64 i ∧ L'.length = L.length ∧ (∀ p ∈ L', p.2.length + (r.length - i) ≤ 137438953472) ∧ Q.items false (d * 2 + 1) (L'.map (·.2)) ((r.map (·.data.toList)).drop i) = Q.items false (d * 2 + 1) (L.map (·.2)) (r.map (·.data.toList)) ∧ MemO Tryd.prog [36, 2] w0 wr [(gr, #[.slice (some ⟨gl, 0, none⟩) n n, .map (some gm), .int .i64 0], 51), (gl, cellsL L', 32), (gs, curs, 9), (gw, cur, 9)] (rowsOf true L') gm (m + 1) (fun k => k == (if false = true then Q.stealW else Q.inputW) ++ Lib.decDigits d || had k)) (fun v92 _ => r.length - (intOf v92).toNat)
                case atStart => exact ⟨0, L, by omega, rfl, rfl, fun p hp => by have := HB.out p hp; simp only [List.length_cons] at this; omega, by rw [List.drop_zero], M5.out⟩
                obtain ⟨i, L', hi, rfl, hLL, hbg, hit, M⟩ := hrel
                have M6 := Aside0.mk M
                have HBG := Lib.hid hbg
                have HIT := Lib.hid hit
                have HLL := Lib.hid hLL
                clear M M5 hbg hit hLL xr0
                by_cases hir : i < r.length
                · obtain ⟨s, hs⟩ : ∃ s, r[i]? = some s := ⟨_, List.getElem?_eq_getElem hir⟩
                  have hcs : cur[2 + i]? = some (.string s) := HC.out (2 + i) s (by rw [show 2 + i = i + 1 + 1 by omega]; exact hs)
                  have xs := word_at M6.out hcs
                  have xw0 := word_at M6.out (HC.out 0 s0 rfl)
                  have zs := HZ.out s (List.mem_cons_of_mem _ (List.mem_cons_of_mem _ (List.mem_of_getElem? hs)))
                  have HDR := Lib.hid (show (r.map (·.data.toList)).drop i = s.data.toList :: (r.map (·.data.toList)).drop (i + 1) by
                    rw [List.drop_eq_getElem_cons (by rw [List.length_map]; exact hir)]
                    congr 1
                    rw [List.getElem_map]
                    have := List.getElem?_eq_getElem hir
                    rw [hs] at this
                    rw [← Option.some.inj this])
                  have q2 : (i : Int) < (r.length : Int) := by omega
                  have HIR := Lib.hid hir
                  have W1 := Lib.hid (show wrap64 ((i : Int) + 1) = ((i + 1 : Nat) : Int) by rw [Int.natCast_add]; exact IntWalk.wrap64_in _ (by have := HLE2; simp only [List.length_cons] at this; omega))
                  have HNU2 := Lib.hid (fun W => number_calls s zs W)
                  have HST := Lib.hid hs
                  clear hs
                  go_wp2_with fail
                  refine (HNU2.out _).mono ?_
                  rintro e W97 ⟨rfl, hb⟩
                  have M7 := Aside0.mk (MemO.call M6.out hb)
                  clear M6 hb xs xw0
                  cases hnb2 : Q.numB s.data.toList with
                  | false =>
                    have HE := Lib.hid (show Q.items false (d * 2 + 1) (L.map (·.2)) (r.map (·.data.toList)) = (190, L'.map (·.2)) by rw [← HIT.out, HDR.out]; exact items_stop _ _ _ _ _ (item_num hnb2))
                    clear hnb2
                    go_wp2
                    go_ret
                    simp only [List.map_cons]
                    rw [HV.out, HE.out]
                    exact ⟨L', _, rfl, M7.out, HLL.out, rfl, HHR.out⟩
                  | true =>
                    have xw0 := word_at M7.out (HC.out 0 s0 rfl)
                    have HNB2 := Lib.hid hnb2
                    clear hnb2
                    by_cases hgo : ∃ u, Lib.parseIntB 64 s.data.toList = .ok u
                    · obtain ⟨u, hu⟩ := hgo
                      have HOK := Lib.hid (fun (W : World) (h : Std W) => pint_ok h s zs u hu)
                      have HUV := Lib.hid (item_iok HNB2.out hu)
                      skip
                      clear hu
                      obtain ⟨p, hp⟩ : ∃ p, L'[(d * 2 + 1)]? = some p := ⟨_, List.getElem?_eq_getElem (by rw [HLL.out]; exact HK.out)⟩
                      have hpc := cellsL_get L' (d * 2 + 1) hp
                      have HPL := Lib.hid (HBG.out p (List.mem_of_getElem? hp))
                      have HPP := Lib.hid hp
                      clear hp
                      go_wp2_with fail
                      refine (HOK.out _ (S.out.below M7.out.mem.below)).mono ?_
                      rintro e W105 ⟨rfl, hb⟩
                      have M8 := Aside0.mk (MemO.call M7.out hb)
                      clear M7 hb xw0
                      have xc : W105.cell? ⟨gl, (d * 2 + 1), none⟩ = some p.1 := (M8.out.mem.cell 1 rfl (d * 2 + 1)).trans hpc
                      have MF : Aside0 (MemO Tryd.prog [36, 2] w0 W105 [(gr, #[.slice (some ⟨gl, 0, none⟩) n n, .map (some gm), .int .i64 0], 51), (gl, cellsL L', 32), (gs, curs, 9), (gw, cur, 9)] (⟨Kd.int .i64, 2, p.1, p.2⟩ :: (rowsOf true L').eraseIdx (d * 2 + 1)) gm (m + 1) (fun k => k == (if false = true then Q.stealW else Q.inputW) ++ Lib.decDigits d || had k)) := by
                        have h := front_row M8.out (d * 2 + 1) HPP.out
                        rw [par_input d] at h
                        exact ⟨h⟩
                      clear M8
                      have HL64 := Lib.hid (show (p.2.length + 1) * 8 ≤ 140737488355328 by have := HPL.out; omega)
                      have hjj : ((cellsL L')[(d * 2 + 1)]?).isSome = true := by rw [hpc]; rfl
                      go_wp2_with (first
                        | ((with_reducible refine gate_builtin (b := .append) (xs := #[.tmp 132, .tmp 134]) rfl ?_); at_builtin; refine oA MF 135 (u : Int) 8 HL64.out ?_; clear MF xc; intro v5 W118 M9)
                        | ((with_reducible refine gate_store (t := 30) (p := 137) rfl ?_); refine oS M9 30 137 1 (d * 2 + 1) v5 (cellsL (L'.set (d * 2 + 1) (v5, p.2 ++ [(u : Int)]))) ?_ rfl hjj (slice_one M9.out) (cellsL_set L' (d * 2 + 1) (v5, p.2 ++ [(u : Int)])); clear M9 hjj; intro W120 M10))
                      go_roundw
                      case rel => exact ⟨i + 1, L'.set (d * 2 + 1) (v5, p.2 ++ [(u : Int)]), by have := HIR.out; omega, by rw [W1.out], by rw [List.length_set]; exact HLL.out, set_bound HPP.out (by simp) HIR.out HBG.out, next_items HPP.out (by rw [← HDR.out]; exact HIT.out) HUV.out, back_row (d * 2 + 1) (by rw [HLL.out]; exact HK.out) (v5, p.2 ++ [(u : Int)]) (by rw [par_input d]; exact M10.out)⟩
                      case measure => exact meas HIR.out W1.out
                    · have HOK := Lib.hid (fun (W : World) (h : Std W) => pint_bad h s zs hgo)
                      have HE := Lib.hid (show Q.items false (d * 2 + 1) (L.map (·.2)) (r.map (·.data.toList)) = (190, L'.map (·.2)) by rw [← HIT.out, HDR.out]; exact items_stop _ _ _ _ _ (item_ibad hgo))
                      clear hgo
                      go_wp2_with fail
                      refine (HOK.out _ (S.out.below M7.out.mem.below)).mono ?_
                      rintro e W105 ⟨u105, te, pe, rfl, hb⟩
                      have M8 := Aside0.mk (MemO.call M7.out hb)
                      clear M7 hb xw0
                      go_wp2
                      go_ret
                      simp only [List.map_cons]
                      rw [HV.out, HE.out]
                      exact ⟨L', _, rfl, M8.out, HLL.out, rfl, HHR.out⟩
                · have q2 : ¬ (i : Int) < (r.length : Int) := by omega
                  have HE := Lib.hid (show Q.items false (d * 2 + 1) (L.map (·.2)) (r.map (·.data.toList)) = (0, L'.map (·.2)) by rw [← HIT.out, List.drop_eq_nil_of_le (by rw [List.length_map]; omega)]; rfl)
                  go_wp2
                  go_ret
                  simp only [List.map_cons]
                  rw [HV.out, HE.out]
                  exact ⟨L', _, rfl, M6.out, HLL.out, rfl, HHR.out⟩
      · have HV := Lib.hid (step_dom n (L.map (·.2)) hd s0.data.toList s1.data.toList (r.map (·.data.toList)) HHD.out (dom_none hgood))
        have HAT := Lib.hid (fun (W : World) (h : Std W) => atoi_bad h s1 z1 hgood)
        clear hgood
        go_wp2_with fail
        refine (HAT.out _ (S.out.below M1.out.mem.below)).mono ?_
        rintro e W40 ⟨u40, te, pe, rfl, hb⟩
        have M2 := Aside0.mk (MemO.call M1.out hb)
        clear M1 hb x1
        go_wp2_with fail
        go_quiet (fail)
        go_wp2
        go_ret
        simp only [List.map_cons]
        rw [HV.out]
        exact left (MemO.drewN M2.out _) HR.out 191
set_option maxHeartbeats 4000000 in
set_option maxRecDepth 100000 in
theorem read_calls {w0 W : World} {gr gl gm gs gw n m c : Nat} {L : List (Value × List Int)} {curs cur : Array Value} {had : List UInt8 → Bool} {hd : List Bool} (s0 : ByteArray) (t : List ByteArray)
    (M0 : ROf w0 W gr gl gm gs gw n m L curs cur had)
    (S0 : Std w0) (hL : L.length = 2 * n) (hn : n ≤ 16) (hcur : ∀ (i : Nat) p, (s0 :: t)[i]? = some p → cur[i]? = some (.string p)) (hsz : ∀ p ∈ s0 :: t, p.size ≤ 262144) (hlen : t.length ≤ 262144)
    (hcap : t.length + 1 ≤ c) (hbig : ∀ p ∈ L, p.2.length + t.length ≤ 137438953472) (hm : m < 1000000) (hR : Q.HadR n had hd) :
    Calls Tryd.prog 32 #[.pointer (some ⟨gr, 0, none⟩), .slice (some ⟨gw, 0, none⟩) (t.length + 1) c] W
      (LineRead w0 gr gl gm gs gw n m L curs cur (Q.step n (L.map (·.2)) hd ((s0 :: t).map (·.data.toList)))) := by
  by_cases a0 : s0.data.toList = Q.stealW
  · exact read_steal s0 t M0 S0 hL hn hcur hsz hlen hcap hbig hm hR a0
  by_cases a1 : s0.data.toList = Q.inputW
  · exact read_input s0 t M0 S0 hL hn hcur hsz hlen hcap hbig hm hR a0 a1
  have M : Aside0 (MemO Tryd.prog [36, 2] w0 W [(gr, #[.slice (some ⟨gl, 0, none⟩) n n, .map (some gm), .int .i64 0], 51), (gl, cellsL L, 32), (gs, curs, 9), (gw, cur, 9)] (rowsOf true L) gm m had) := Aside0.mk M0
  have x0 := word_at M0 (hcur 0 s0 rfl)
  have S := Lib.hid S0
  have HL := Lib.hid hL
  have HC := Lib.hid hcur
  have HZ := Lib.hid hsz
  have HB := Lib.hid hbig
  have HR := Lib.hid hR
  have HM := Lib.hid hm
  have HLE := Lib.hid hlen
  have HCAP := Lib.hid hcap
  clear S0 hL hcur hsz hbig hR hm hlen hcap M0
  have e0 : (s0.toList == [115, 116, 101, 97, 108]) = false := by rw [ByteArray.toList_eq]; exact beq_eq_false_iff_ne.mpr a0
  have e1 : (s0.toList = [115, 116, 101, 97, 108]) = False := eq_false (by rw [ByteArray.toList_eq]; exact a0)
  have e2 : (s0.toList == [105, 110, 112, 117, 116]) = false := by rw [ByteArray.toList_eq]; exact beq_eq_false_iff_ne.mpr a1
  have e3 : (s0.toList = [105, 110, 112, 117, 116]) = False := eq_false (by rw [ByteArray.toList_eq]; exact a1)
  have HV : RowKit.Hid (Q.step n (L.map (·.2)) hd (s0.data.toList :: t.map (·.data.toList)) = (190, L.map (·.2), hd)) := Lib.hid (by
    cases t with
    | nil => rfl
    | cons s1 r => exact step_head _ _ _ _ _ _ (fun h => by rcases h.1 with h | h; exact a0 h; exact a1 h))
  clear a0 a1
  go_enter Tryd.func32, Tryd.ntmps32
  go_wp2
  go_ret
  rw [HV.out]
  exact left M.out HR.out 190
end Go.Proofs.YtonnlkpmfmknlaaDoor.Hof
end
