import Derived.Test.YtonnlkpmfmknlaaDoorMRd2
import Derived.IntWalk
section
/-
  rotaref19.line, walked.
-/
set_option linter.unusedVariables false
set_option linter.unusedSimpArgs false
namespace Go.Proofs.YtonnlkpmfmknlaaDoor.Hof
open Go.RowKit Go.Shelf Go.Proofs.YtonnlkpmfmknlaaDoorW.PrintWords Go.Proofs.YtonnlkpmfmknlaaDoorW.PrintLast Go.Proofs.YtonnlkpmfmknlaaDoorW.PrintMore Hctx GA
/-- What a line's reading leaves. -/
def LineR (w0 : World) (gr gl gs gi gln gw n : Nat) (rd : Array Value) (L : List (Value × List Int)) (curs cur : Array Value) (st : Int × List (List Int) × List Bool) (e : Ending) (W' : World) : Prop :=
  ∃ L' S' I', e = .returned (.tuple #[.agg #[.slice (some ⟨gl, 0, none⟩) n n, .slice (some ⟨gs, 0, none⟩) n n, .slice (some ⟨gi, 0, none⟩) n n], .int .i64 st.1]) ∧ Mem [36, 2] w0 W' [(gr, rd, 59), (gl, cellsL L', 32), (gs, bc S', 4), (gi, bc I', 4), (gln, curs, 9), (gw, cur, 9)] (rowsOf true L') ∧ L'.length = L.length ∧ L'.map (·.2) = st.2.1 ∧ HadS n S' I' st.2.2
theorem word_atM {w0 W : World} {l : List (Nat × Array Value × TypeId)} {rows : List Row} {es : List TypeId} (M : Mem es w0 W l rows) (k : Nat) {gw : Nat} {cur : Array Value} (hk : l[k]? = some (gw, cur, 9)) {i : Nat} {s : ByteArray} (h : cur[i]? = some (.string s)) : W.cell? ⟨gw, i, none⟩ = some (.string s) := (M.cell k hk i).trans h
section
variable {es : List TypeId} {w0 W : World} {l : List (Nat × Array Value × TypeId)} {L : List (Value × List Int)}
theorem front_rowM (M : Mem es w0 W l (rowsOf true L)) (k : Nat) {p : Value × List Int} (hk : L[k]? = some p) : Mem es w0 W l (mkR (par true k) p :: (rowsOf true L).eraseIdx k) :=
  Mem.front M k (by rw [rowsOf_get, hk]; rfl)
theorem back_rowM (k : Nat) (hk : k < L.length) (p : Value × List Int) (M : Mem es w0 W l (mkR (par true k) p :: (rowsOf true L).eraseIdx k)) : Mem es w0 W l (rowsOf true (L.set k p)) := by
  rw [rowsOf_set]
  exact Mem.back k (by rw [rowsOf_len]; exact hk) M
theorem slice_oneM {d : Kd Int} {e : TypeId} {v : Value} {xs : List Int} {rows : List Row} (M : Mem es w0 W l (⟨d, e, v, xs⟩ :: rows)) : v.oneCell' = true := by
  obtain ⟨A, c, rfl⟩ := Kd.R_slice M.own; rfl
end
theorem canon_item (s : List UInt8) (h : Q.Canon s 4294967295) : Q.itemV true s = some ((Num.dfold 0 s : Nat) : Int) := by rw [Q.item_u, if_pos h]
theorem canon_item_no (s : List UInt8) (h : ¬ Q.Canon s 4294967295) : Q.itemV true s = none := by rw [Q.item_u, if_neg h]
theorem set_boundJ {L' : List (Value × List Int)} {k : Nat} {p q : Value × List Int} {n j B : Nat} (hp : L'[k]? = some p) (hq : q.2.length = p.2.length + 1) (hj : j < n) (h : ∀ p ∈ L', p.2.length + (n - j) ≤ B) : ∀ p ∈ L'.set k q, p.2.length + (n - (j + 1)) ≤ B := set_bound hp hq hj h
set_option maxHeartbeats 4000000 in
set_option maxRecDepth 100000 in
theorem line_steal {w0 W : World} {gr gl gs gi gln gw n c : Nat} {rd : Array Value} {L : List (Value × List Int)} {S I : List Bool} {curs cur : Array Value} {hd : List Bool} (s0 : ByteArray) (t : List ByteArray)
    (M0 : Mem [36, 2] w0 W [(gr, rd, 59), (gl, cellsL L, 32), (gs, bc S, 4), (gi, bc I, 4), (gln, curs, 9), (gw, cur, 9)] (rowsOf true L))
    (hL : L.length = 2 * n) (hn : n ≤ 16) (hcur : ∀ (i : Nat) p, (s0 :: t)[i]? = some p → cur[i]? = some (.string p)) (hsz : ∀ p ∈ s0 :: t, p.size ≤ 262144) (hlen : t.length ≤ 262144)
    (hbig : ∀ p ∈ L, p.2.length + t.length ≤ 137438953472) (hR : HadS n S I hd) (a0 : s0.data.toList = Q.stealW) :
    Calls Tryd.prog 35 #[.agg #[.slice (some ⟨gl, 0, none⟩) n n, .slice (some ⟨gs, 0, none⟩) n n, .slice (some ⟨gi, 0, none⟩) n n], .slice (some ⟨gw, 0, none⟩) (t.length + 1) c] W
      (LineR w0 gr gl gs gi gln gw n rd L curs cur (Q.step n (L.map (·.2)) hd ((s0 :: t).map (·.data.toList)))) := by
  have M : Aside0 (Mem [36, 2] w0 W [(gr, rd, 59), (gl, cellsL L, 32), (gs, bc S, 4), (gi, bc I, 4), (gln, curs, 9), (gw, cur, 9)] (rowsOf true L)) := Aside0.mk M0
  have x0 := word_atM M0 5 rfl (hcur 0 s0 rfl)
  have HL := Lib.hid hL
  have HN := Lib.hid hn
  have HC := Lib.hid hcur
  have HZ := Lib.hid hsz
  have HB := Lib.hid hbig
  have HR := Lib.hid hR
  have HLE := Lib.hid hlen
  clear hL hn hcur hsz hbig hR hlen M0
  have e0 : (s0.toList == [115, 116, 101, 97, 108]) = true := by rw [ByteArray.toList_eq, a0]; rfl
  have e1 : s0.toList = [115, 116, 101, 97, 108] := by rw [ByteArray.toList_eq, a0]; rfl
  have e2 : (s0.toList == [105, 110, 112, 117, 116]) = false := by rw [ByteArray.toList_eq, a0]; rfl
  have e3 : (s0.toList = [105, 110, 112, 117, 116]) = False := eq_false (by rw [ByteArray.toList_eq, a0]; decide)
  have A0 := Lib.hid a0
  clear a0
  cases t with
  | nil =>
    go_enter Tryd.func35, Tryd.ntmps35
    go_wp2_with (first
      | ((with_reducible refine gate_dst (N := 2) rfl ?_); refine eB M 2 #[.slice (some ⟨gl, 0, none⟩) n n, .slice (some ⟨gs, 0, none⟩) n n, .slice (some ⟨gi, 0, none⟩) n n] 59 ?_; clear M; intro g2 wa M1)
      | ((with_reducible refine gate_dst (N := 4) rfl ?_); refine eB M1 4 #[.slice none 0 0, .slice none 0 0, .slice none 0 0] 59 ?_; clear M1 x0; intro g4 wb M2; have x0 := word_atM M2.out 5 rfl (HC.out 0 s0 rfl))
      | ((with_reducible refine gate_dst (N := 29) rfl ?_); refine eL M2 29 6 Tryd.underlying59 ?_)
      | ((with_reducible refine gate_store (t := 59) (p := 4) rfl ?_); refine eR M2 59 4 7 #[.slice (some ⟨gl, 0, none⟩) n n, .slice (some ⟨gs, 0, none⟩) n n, .slice (some ⟨gi, 0, none⟩) n n] ?_; clear M2; intro wz MZ)
      | fail)
    refine bodyPost_ret (results_ct rfl _ _ g4 59 _ (0, 0) _ rfl (MZ.out.at 7 rfl) Tryd.underlying59 rfl (by kernel_rfl)) rfl ?_
    simp only [List.map_cons, List.map_nil]
    rw [show Q.step n (L.map (·.2)) hd [s0.data.toList] = (190, L.map (·.2), hd) from rfl]
    exact ⟨L, S, I, rfl, MZ.out.forget 6, rfl, rfl, HR.out⟩
  | cons s1 r =>
    have z0 := HZ.out s0 (by simp)
    have z1 := HZ.out s1 (by simp)
    have HNU := Lib.hid (fun W => number_ref s1 z1 W)
    have HDG := Lib.hid (fun W => digits_ref s1 z1 4611686018427387904 (by omega) (by omega) W)
    have HLE2 := HLE.out
    have hl2 : decide ((r.length : Int) + 1 + 1 < 2) = false := decide_eq_false (by omega)
    have hl3 : ((1 : Int) < (r.length : Int) + 1 + 1) = True := eq_true (by omega)
    go_enter Tryd.func35, Tryd.ntmps35
    go_wp2_with (first
      | ((with_reducible refine gate_dst (N := 2) rfl ?_); refine eB M 2 #[.slice (some ⟨gl, 0, none⟩) n n, .slice (some ⟨gs, 0, none⟩) n n, .slice (some ⟨gi, 0, none⟩) n n] 59 ?_; clear M; intro g2 wa M1)
      | ((with_reducible refine gate_dst (N := 4) rfl ?_); refine eB M1 4 #[.slice none 0 0, .slice none 0 0, .slice none 0 0] 59 ?_; clear M1 x0; intro g4 wb M2; have x0 := word_atM M2.out 5 rfl (HC.out 0 s0 rfl); have x1 := word_atM M2.out 5 rfl (HC.out 1 s1 rfl))
      | fail)
    refine (HNU.out _).mono ?_
    rintro e W33 ⟨rfl, hb⟩
    have M3 := Aside0.mk (M2.out.call hb)
    clear M2 hb x0 x1
    cases hnb : Q.numB s1.data.toList with
    | false =>
      have HV := Lib.hid (step_head n (L.map (·.2)) hd s0.data.toList s1.data.toList (r.map (·.data.toList)) (fun h => by rw [hnb] at h; exact absurd h.2 (by simp)))
      go_wp2_with (first
        | ((with_reducible refine gate_dst (N := 35) rfl ?_); refine eL M3 35 6 Tryd.underlying59 ?_)
        | ((with_reducible refine gate_store (t := 59) (p := 4) rfl ?_); refine eR M3 59 4 7 #[.slice (some ⟨gl, 0, none⟩) n n, .slice (some ⟨gs, 0, none⟩) n n, .slice (some ⟨gi, 0, none⟩) n n] ?_; clear M3; intro wz MZ)
        | fail)
      refine bodyPost_ret (results_ct rfl _ _ g4 59 _ (0, 0) _ rfl (MZ.out.at 7 rfl) Tryd.underlying59 rfl (by kernel_rfl)) rfl ?_
      simp only [List.map_cons, List.map_nil]
      rw [HV.out]
      exact ⟨L, S, I, rfl, MZ.out.forget 6, rfl, rfl, HR.out⟩
    | true =>
      have HNB := Lib.hid hnb
      clear hnb
      have x1 := word_atM M3.out 5 rfl (HC.out 1 s1 rfl)
      have HHD : RowKit.Hid ((s0.data.toList = Q.stealW ∨ s0.data.toList = Q.inputW) ∧ Q.numB s1.data.toList = true) := Lib.hid ⟨(.inl A0.out), HNB.out⟩
      have HDI := Lib.hid (Q.dom_is n HN.out s1.data.toList HNB.out)
      go_wp2_with fail
      refine (HDG.out _).mono ?_
      by_cases hcan : Q.Canon s1.data.toList 4611686018427387904
      · rw [if_pos hcan, decide_eq_true hcan]
        obtain ⟨d, hd0⟩ : ∃ d : Nat, d = Num.dfold 0 s1.data.toList := ⟨_, rfl⟩
        have HD4 := Lib.hid (show d ≤ 4611686018427387904 by rw [hd0]; exact hcan.2.2.2)
        rw [← hd0]
        have HDD := Lib.hid hd0
        have HCAN := Lib.hid hcan
        clear hd0 hcan
        rintro e W40 ⟨rfl, hb⟩
        have M4 := Aside0.mk (M3.out.call hb)
        clear M3 hb x1
        have k0 := M4.out.cell 6 rfl 0
        have k1 := M4.out.cell 6 rfl 1
        have k2 := M4.out.cell 6 rfl 2
        have x0 := word_atM M4.out 5 rfl (HC.out 0 s0 rfl)
        have HN2 := HN.out
        have HD42 := HD4.out
        have hwn : IntKind.u64.wrap (n : Int) = (n : Int) := by rw [IntKind.wrap_u64]; omega
        by_cases hdn : d < n
        · have HDN := Lib.hid hdn
          have c1 : ((d : Int) ≥ (n : Int)) = False := eq_false (by omega)
          have c2 : decide ((d : Int) ≥ (n : Int)) = false := decide_eq_false (by omega)
          have c3 : decide (n ≤ d) = false := decide_eq_false (by omega)
          have c4 : ¬ n ≤ d := by omega
          have hd0 : (0 ≤ (d : Int)) = True := eq_true (by omega)
          have hd1 : ((d : Int) < (n : Int)) = True := eq_true (by omega)
          have xs : W40.cell? ⟨gs, d, none⟩ = some (.bool (S.getD d false)) := (M4.out.cell 2 rfl d).trans (bc_get S d (by rw [HR.out.ls]; exact hdn))
          have HFLG := Lib.hid (HR.out.s d hdn)
          have HDM := Lib.hid (show Q.domV n s1.data.toList = some d by rw [HDI.out, if_pos ⟨HCAN.out, by rw [← HDD.out]; exact hdn⟩, HDD.out])
          clear hdn
          cases hh : S.getD d false with
          | true =>
            rw [hh] at xs
            have HV := Lib.hid (step_had n (L.map (·.2)) hd s0.data.toList s1.data.toList (r.map (·.data.toList)) HHD.out HDM.out (by rw [show decide (s0.data.toList = Q.stealW) = true from decide_eq_true A0.out, HFLG.out]; exact hh))
            clear hh HN2 HD42
            go_wp2_with (first
              | ((with_reducible refine gate_dst (N := 66) rfl ?_); refine eL M4 66 6 Tryd.underlying59 ?_)
              | ((with_reducible refine gate_store (t := 59) (p := 4) rfl ?_); refine eR M4 59 4 7 #[.slice (some ⟨gl, 0, none⟩) n n, .slice (some ⟨gs, 0, none⟩) n n, .slice (some ⟨gi, 0, none⟩) n n] ?_; clear M4; intro wz MZ)
              | fail)
            refine bodyPost_ret (results_ct rfl _ _ g4 59 _ (0, 0) _ rfl (MZ.out.at 7 rfl) Tryd.underlying59 rfl (by kernel_rfl)) rfl ?_
            simp only [List.map_cons, List.map_nil]
            rw [HV.out]
            exact ⟨L, S, I, rfl, MZ.out.forget 6, rfl, rfl, HR.out⟩
          | false =>
            rw [hh] at xs
            have HV : RowKit.Hid (Q.step n (L.map (·.2)) hd (s0.data.toList :: s1.data.toList :: r.map (·.data.toList)) = ((Q.items true (d * 2) (L.map (·.2)) (r.map (·.data.toList))).1, (Q.items true (d * 2) (L.map (·.2)) (r.map (·.data.toList))).2, hd.set (Q.slot d true) true)) := Lib.hid (by
              have h := step_items n (L.map (·.2)) hd s0.data.toList s1.data.toList (r.map (·.data.toList)) HHD.out HDM.out (by rw [show decide (s0.data.toList = Q.stealW) = true from decide_eq_true A0.out, HFLG.out]; exact hh)
              rw [show decide (s0.data.toList = Q.stealW) = true from decide_eq_true A0.out, show Q.slot d true = (d * 2) from slot_steal d] at h
              rw [show Q.slot d true = (d * 2) from slot_steal d]
              exact h)
            clear hh
            have HHR := Lib.hid (HR.out.put_s HDN.out)
            have HK := Lib.hid (show (d * 2) < L.length by have h1 := HL.out; have h2 := HDN.out; omega)
            have hjb : ((bc S)[d]?).isSome = true := by rw [bc_get S d (by rw [HR.out.ls]; exact HDN.out)]; rfl
            go_wp2_with (first
              | ((with_reducible refine gate_store (t := 4) (p := 69) rfl ?_); refine eSn M4 4 69 2 d (.bool true) (bc (S.set d true)) ?_ rfl hjb rfl (bc_set S d true); clear M4 xs hjb x0 k0 k1 k2; intro w5 M5)
              | fail)
            go_loopw [9] (fun v9 wr => ∃ (j : Nat) (L' : List (Value × List Int)), 2 ≤ j ∧ j ≤ r.length + 2 ∧ v9 = .int .i64 j ∧ L'.length = L.length ∧ (∀ p ∈ L', p.2.length + (r.length + 2 - j) ≤ 137438953472) ∧ Q.items true (d * 2) (L'.map (·.2)) (((s0 :: s1 :: r).map (·.data.toList)).drop j) = Q.items true (d * 2) (L.map (·.2)) (r.map (·.data.toList)) ∧ Mem [36, 2] w0 wr [(gr, rd, 59), (gl, cellsL L', 32), (gs, bc (S.set d true), 4), (gi, bc I, 4), (gln, curs, 9), (gw, cur, 9), (g2, #[.slice (some ⟨gl, 0, none⟩) n n, .slice (some ⟨gs, 0, none⟩) n n, .slice (some ⟨gi, 0, none⟩) n n], 59), (g4, #[.slice none 0 0, .slice none 0 0, .slice none 0 0], 59)] (rowsOf true L')) (fun v9 _ => r.length + 2 - (intOf v9).toNat)
            case atStart => exact ⟨2, L, by omega, by omega, rfl, rfl, fun p hp => by have := HB.out p hp; simp only [List.length_cons] at this; omega, rfl, M5.out⟩
            rename World => w6
            obtain ⟨j, L', hj2, hj, rfl, hLL, hbg, hit, MW⟩ := hrel
            have M6 := Aside0.mk MW
            have HBG := Lib.hid hbg
            have HIT := Lib.hid hit
            have HLL := Lib.hid hLL
            have HJ2 := Lib.hid hj2
            clear MW M5 hbg hit hLL
            have x0 := word_atM M6.out 5 rfl (HC.out 0 s0 rfl)
            by_cases hjr : j < r.length + 2
            · obtain ⟨s, hs⟩ : ∃ s, (s0 :: s1 :: r)[j]? = some s := ⟨_, List.getElem?_eq_getElem (by simpa using hjr)⟩
              have xj := word_atM M6.out 5 rfl (HC.out j s hs)
              have zs := HZ.out s (List.mem_of_getElem? hs)
              have HDR := Lib.hid (show ((s0 :: s1 :: r).map (·.data.toList)).drop j = s.data.toList :: ((s0 :: s1 :: r).map (·.data.toList)).drop (j + 1) by
                rw [List.drop_eq_getElem_cons (by simpa using hjr)]
                congr 1
                rw [List.getElem_map]
                have := List.getElem?_eq_getElem (show j < (s0 :: s1 :: r).length by simpa using hjr)
                rw [hs] at this
                rw [← Option.some.inj this])
              have q2 : (j : Int) < (r.length : Int) + 1 + 1 := by omega
              have q3 : (0 : Int) ≤ (j : Int) := by omega
              have HJR := Lib.hid hjr
              have W1 := Lib.hid (show wrap64 ((j : Int) + 1) = ((j + 1 : Nat) : Int) by rw [Int.natCast_add]; exact IntWalk.wrap64_in _ (by have := HLE2; simp only [List.length_cons] at this; omega))
              obtain ⟨p, hp⟩ : ∃ p, L'[(d * 2)]? = some p := ⟨_, List.getElem?_eq_getElem (by rw [HLL.out]; exact HK.out)⟩
              have hpc := cellsL_get L' (d * 2) hp
              have HPL := Lib.hid (HBG.out p (List.mem_of_getElem? hp))
              have HPP := Lib.hid hp
              have hjj : ((cellsL L')[(d * 2)]?).isSome = true := by rw [hpc]; rfl
              have HPO := Lib.hid hpc
              have HJJ := Lib.hid hjj
              clear hp hs hjr hj hj2 hpc hjj
              have HD32 := Lib.hid (fun W => digits_ref s zs 4294967295 (by omega) (by omega) W)
              go_wp2_with fail
              refine (HD32.out _).mono ?_
              by_cases hc2 : Q.Canon s.data.toList 4294967295
              · rw [if_pos hc2, decide_eq_true hc2]
                obtain ⟨u, hu0⟩ : ∃ u : Nat, u = Num.dfold 0 s.data.toList := ⟨_, rfl⟩
                have HU32 := Lib.hid (show u ≤ 4294967295 by rw [hu0]; exact hc2.2.2.2)
                have HUV := Lib.hid (show Q.itemV true s.data.toList = some ((u : Nat) : Int) by rw [hu0]; exact canon_item _ hc2)
                rw [← hu0]
                clear hu0 hc2
                rintro e W85 ⟨rfl, hb⟩
                have hwu : IntKind.u32.wrap (u : Int) = (u : Int) := by rw [IntKind.wrap_u32]; have := HU32.out; omega
                have M7 := Aside0.mk (M6.out.call hb)
                clear M6 hb xj x0
                have HL64 := Lib.hid (show (p.2.length + 1) * 4 ≤ 140737488355328 by have := HPL.out; have := HJR.out; omega)
                have k0 := M7.out.cell 6 rfl 0
                go_wp2_with fail
                have hpc := HPO.out
                have hjj := HJJ.out
                refine dStart [15] [] M7 (fun w' MD => ?_)
                clear M7
                refine dP 0 91 (.pointer (some ⟨g2, 0, none⟩)) ?_
                simp only [Act.put, List.setIfInBounds_toArray, List.set_cons_zero, List.set_cons_succ]
                refine dC MD 1 92 6 0 (.slice (some ⟨gl, 0, none⟩) n n) ?_
                simp only [Act.put, List.setIfInBounds_toArray, List.set_cons_zero, List.set_cons_succ]
                refine dP 2 93 (.int .u64 (d : Int)) ?_
                simp only [Act.put, List.setIfInBounds_toArray, List.set_cons_zero, List.set_cons_succ]
                refine dP 3 94 (.pointer (some ⟨g2, 0, none⟩)) ?_
                simp only [Act.put, List.setIfInBounds_toArray, List.set_cons_zero, List.set_cons_succ]
                refine dC MD 4 95 6 0 (.slice (some ⟨gl, 0, none⟩) n n) ?_
                simp only [Act.put, List.setIfInBounds_toArray, List.set_cons_zero, List.set_cons_succ]
                refine dP 5 96 (.int .u64 (d : Int)) ?_
                simp only [Act.put, List.setIfInBounds_toArray, List.set_cons_zero, List.set_cons_succ]
                refine dP 6 97 (.pointer (some ⟨gl, d * 2, none⟩)) ?_
                simp only [Act.put, List.setIfInBounds_toArray, List.set_cons_zero, List.set_cons_succ]
                refine dP 7 98 (.pointer (some ⟨gl, d * 2, none⟩)) ?_
                simp only [Act.put, List.setIfInBounds_toArray, List.set_cons_zero, List.set_cons_succ]
                refine dC MD 8 99 1 (d * 2) p.1 (hv := hpc) ?_
                simp only [Act.put, List.setIfInBounds_toArray, List.set_cons_zero, List.set_cons_succ]
                refine dP 9 100 (.int .u64 (u : Int)) ?_
                simp only [Act.put, List.setIfInBounds_toArray, List.set_cons_zero, List.set_cons_succ]
                refine dP 10 101 (.int .u32 (u : Int)) ?_
                simp only [Act.put, List.setIfInBounds_toArray, List.set_cons_zero, List.set_cons_succ]
                refine dR [11] ?_
                refine qBs MD 11 102 (.int .u32 (u : Int)) 36 ?_ AllReadyL.nil
                simp only [Act.put, List.setIfInBounds_toArray, List.set_cons_zero, List.set_cons_succ]
                have MF := Aside0.mk (show Mem [36, 2] w0 w' _ (⟨Kd.int .u32, 36, p.1, p.2⟩ :: (rowsOf true L').eraseIdx (d * 2)) from by have h := front_rowM MD.out (d * 2) HPP.out; rw [par_steal d] at h; exact h)
                clear MD
                refine dR [12] ?_
                refine qAp MF 12 103 (u : Int) 4 HL64.out ?_ AllReadyL.nil
                clear MF
                intro v5 w6 MG
                simp only [Act.put, List.setIfInBounds_toArray, List.set_cons_zero, List.set_cons_succ]
                refine dP 13 104 (.pointer (some ⟨gl, d * 2, none⟩)) ?_
                simp only [Act.put, List.setIfInBounds_toArray, List.set_cons_zero, List.set_cons_succ]
                refine dP 14 105 (.pointer (some ⟨gl, d * 2, none⟩)) ?_
                simp only [Act.put, List.setIfInBounds_toArray, List.set_cons_zero, List.set_cons_succ]
                refine dR [15] ?_
                refine qC MG 15 29 105 1 (d * 2) v5 (cellsL (L'.set (d * 2) (v5, p.2 ++ [(u : Int)]))) ?_ rfl hjj (slice_oneM MG.out) (cellsL_set L' (d * 2) (v5, p.2 ++ [(u : Int)])) AllReadyL.nil
                clear MG
                intro w7 MH
                refine dDone ?_
                clear hpc hjj k0
                go_wp2
                go_roundw
                case rel => exact ⟨j + 1, L'.set (d * 2) (v5, p.2 ++ [(u : Int)]), by have := HJ2.out; omega, by have := HJR.out; omega, by rw [W1.out], by rw [List.length_set]; exact HLL.out, set_boundJ HPP.out (by simp) HJR.out HBG.out, next_items HPP.out (by rw [← HDR.out]; exact HIT.out) HUV.out, back_rowM (d * 2) (by rw [HLL.out]; exact HK.out) (v5, p.2 ++ [(u : Int)]) (by rw [par_steal d]; exact MH.out)⟩
                case measure => exact meas HJR.out W1.out
              · rw [if_neg hc2, decide_eq_false hc2]
                have HE := Lib.hid (show Q.items true (d * 2) (L.map (·.2)) (r.map (·.data.toList)) = (190, L'.map (·.2)) by rw [← HIT.out, HDR.out]; exact items_stop _ _ _ _ _ (canon_item_no _ hc2))
                clear hc2
                rintro e W85 ⟨rfl, hb⟩
                have M7 := Aside0.mk (M6.out.call hb)
                clear M6 hb xj x0
                go_wp2_with (first
                  | ((with_reducible refine gate_dst (N := 90) rfl ?_); refine eL M7 90 6 Tryd.underlying59 ?_)
                  | ((with_reducible refine gate_store (t := 59) (p := 4) rfl ?_); refine eR M7 59 4 7 #[.slice (some ⟨gl, 0, none⟩) n n, .slice (some ⟨gs, 0, none⟩) n n, .slice (some ⟨gi, 0, none⟩) n n] ?_; clear M7; intro wz MZ)
                  | fail)
                refine bodyPost_ret (results_ct rfl _ _ g4 59 _ (0, 0) _ rfl (MZ.out.at 7 rfl) Tryd.underlying59 rfl (by kernel_rfl)) rfl ?_
                simp only [List.map_cons, List.map_nil]
                rw [HV.out, HE.out]
                exact ⟨L', (S.set d true), I, rfl, MZ.out.forget 6, HLL.out, rfl, HHR.out⟩
            · have q2 : ¬ (j : Int) < (r.length : Int) + 1 + 1 := by omega
              have HE := Lib.hid (show Q.items true (d * 2) (L.map (·.2)) (r.map (·.data.toList)) = (0, L'.map (·.2)) by rw [← HIT.out, List.drop_eq_nil_of_le (by simp; omega)]; rfl)
              clear hj hj2 hjr
              go_wp2_with (first
                | ((with_reducible refine gate_dst (N := 131) rfl ?_); refine eL M6 131 6 Tryd.underlying59 ?_)
                | ((with_reducible refine gate_store (t := 59) (p := 4) rfl ?_); refine eR M6 59 4 7 #[.slice (some ⟨gl, 0, none⟩) n n, .slice (some ⟨gs, 0, none⟩) n n, .slice (some ⟨gi, 0, none⟩) n n] ?_; clear M6; intro wz MZ)
                | fail)
              refine bodyPost_ret (results_ct rfl _ _ g4 59 _ (0, 0) _ rfl (MZ.out.at 7 rfl) Tryd.underlying59 rfl (by kernel_rfl)) rfl ?_
              simp only [List.map_cons, List.map_nil]
              rw [HV.out, HE.out]
              exact ⟨L', (S.set d true), I, rfl, MZ.out.forget 6, HLL.out, rfl, HHR.out⟩
        · have c1 : ((d : Int) ≥ (n : Int)) = True := eq_true (by omega)
          have c2 : decide ((d : Int) ≥ (n : Int)) = true := decide_eq_true (by omega)
          have c3 : decide (n ≤ d) = true := decide_eq_true (by omega)
          have c4 : n ≤ d := by omega
          have HV := Lib.hid (step_dom n (L.map (·.2)) hd s0.data.toList s1.data.toList (r.map (·.data.toList)) HHD.out (by rw [HDI.out, if_neg (fun h => hdn (by rw [HDD.out]; exact h.2))]))
          clear hdn HN2 HD42
          go_wp2_with (first
            | ((with_reducible refine gate_dst (N := 66) rfl ?_); refine eL M4 66 6 Tryd.underlying59 ?_)
            | ((with_reducible refine gate_store (t := 59) (p := 4) rfl ?_); refine eR M4 59 4 7 #[.slice (some ⟨gl, 0, none⟩) n n, .slice (some ⟨gs, 0, none⟩) n n, .slice (some ⟨gi, 0, none⟩) n n] ?_; clear M4; intro wz MZ)
            | fail)
          refine bodyPost_ret (results_ct rfl _ _ g4 59 _ (0, 0) _ rfl (MZ.out.at 7 rfl) Tryd.underlying59 rfl (by kernel_rfl)) rfl ?_
          simp only [List.map_cons, List.map_nil]
          rw [HV.out]
          exact ⟨L, S, I, rfl, MZ.out.forget 6, rfl, rfl, HR.out⟩
      · rw [if_neg hcan, decide_eq_false hcan]
        have HV := Lib.hid (step_dom n (L.map (·.2)) hd s0.data.toList s1.data.toList (r.map (·.data.toList)) HHD.out (by rw [HDI.out, if_neg (fun h => hcan h.1)]))
        clear hcan
        rintro e W40 ⟨rfl, hb⟩
        have M4 := Aside0.mk (M3.out.call hb)
        clear M3 hb x1
        go_wp2_with (first
          | ((with_reducible refine gate_dst (N := 45) rfl ?_); refine eL M4 45 6 Tryd.underlying59 ?_)
          | ((with_reducible refine gate_store (t := 59) (p := 4) rfl ?_); refine eR M4 59 4 7 #[.slice (some ⟨gl, 0, none⟩) n n, .slice (some ⟨gs, 0, none⟩) n n, .slice (some ⟨gi, 0, none⟩) n n] ?_; clear M4; intro wz MZ)
          | fail)
        refine bodyPost_ret (results_ct rfl _ _ g4 59 _ (0, 0) _ rfl (MZ.out.at 7 rfl) Tryd.underlying59 rfl (by kernel_rfl)) rfl ?_
        simp only [List.map_cons, List.map_nil]
        rw [HV.out]
        exact ⟨L, S, I, rfl, MZ.out.forget 6, rfl, rfl, HR.out⟩
end Go.Proofs.YtonnlkpmfmknlaaDoor.Hof
end

section
/-
  rotaref19.line, walked.
-/
set_option linter.unusedVariables false
set_option linter.unusedSimpArgs false
namespace Go.Proofs.YtonnlkpmfmknlaaDoor.Hof
open Go.RowKit Go.Shelf Go.Proofs.YtonnlkpmfmknlaaDoorW.PrintWords Go.Proofs.YtonnlkpmfmknlaaDoorW.PrintLast Go.Proofs.YtonnlkpmfmknlaaDoorW.PrintMore Hctx GA
set_option maxHeartbeats 4000000 in
set_option maxRecDepth 100000 in
theorem line_input {w0 W : World} {gr gl gs gi gln gw n c : Nat} {rd : Array Value} {L : List (Value × List Int)} {S I : List Bool} {curs cur : Array Value} {hd : List Bool} (s0 : ByteArray) (t : List ByteArray)
    (M0 : Mem [36, 2] w0 W [(gr, rd, 59), (gl, cellsL L, 32), (gs, bc S, 4), (gi, bc I, 4), (gln, curs, 9), (gw, cur, 9)] (rowsOf true L))
    (hL : L.length = 2 * n) (hn : n ≤ 16) (hcur : ∀ (i : Nat) p, (s0 :: t)[i]? = some p → cur[i]? = some (.string p)) (hsz : ∀ p ∈ s0 :: t, p.size ≤ 262144) (hlen : t.length ≤ 262144)
    (hbig : ∀ p ∈ L, p.2.length + t.length ≤ 137438953472) (hR : HadS n S I hd) (a0 : ¬ s0.data.toList = Q.stealW) (a1 : s0.data.toList = Q.inputW) :
    Calls Tryd.prog 35 #[.agg #[.slice (some ⟨gl, 0, none⟩) n n, .slice (some ⟨gs, 0, none⟩) n n, .slice (some ⟨gi, 0, none⟩) n n], .slice (some ⟨gw, 0, none⟩) (t.length + 1) c] W
      (LineR w0 gr gl gs gi gln gw n rd L curs cur (Q.step n (L.map (·.2)) hd ((s0 :: t).map (·.data.toList)))) := by
  have M : Aside0 (Mem [36, 2] w0 W [(gr, rd, 59), (gl, cellsL L, 32), (gs, bc S, 4), (gi, bc I, 4), (gln, curs, 9), (gw, cur, 9)] (rowsOf true L)) := Aside0.mk M0
  have x0 := word_atM M0 5 rfl (hcur 0 s0 rfl)
  have HL := Lib.hid hL
  have HN := Lib.hid hn
  have HC := Lib.hid hcur
  have HZ := Lib.hid hsz
  have HB := Lib.hid hbig
  have HR := Lib.hid hR
  have HLE := Lib.hid hlen
  clear hL hn hcur hsz hbig hR hlen M0
  have e0 : (s0.toList == [115, 116, 101, 97, 108]) = false := by rw [ByteArray.toList_eq]; exact beq_eq_false_iff_ne.mpr a0
  have e1 : (s0.toList = [115, 116, 101, 97, 108]) = False := eq_false (by rw [ByteArray.toList_eq]; exact a0)
  have A0 := Lib.hid a0
  have e2 : (s0.toList == [105, 110, 112, 117, 116]) = true := by rw [ByteArray.toList_eq, a1]; rfl
  have e3 : s0.toList = [105, 110, 112, 117, 116] := by rw [ByteArray.toList_eq, a1]; rfl
  have A1 := Lib.hid a1
  clear a0 a1
  cases t with
  | nil =>
    go_enter Tryd.func35, Tryd.ntmps35
    go_wp2_with (first
      | ((with_reducible refine gate_dst (N := 2) rfl ?_); refine eB M 2 #[.slice (some ⟨gl, 0, none⟩) n n, .slice (some ⟨gs, 0, none⟩) n n, .slice (some ⟨gi, 0, none⟩) n n] 59 ?_; clear M; intro g2 wa M1)
      | ((with_reducible refine gate_dst (N := 4) rfl ?_); refine eB M1 4 #[.slice none 0 0, .slice none 0 0, .slice none 0 0] 59 ?_; clear M1 x0; intro g4 wb M2; have x0 := word_atM M2.out 5 rfl (HC.out 0 s0 rfl))
      | ((with_reducible refine gate_dst (N := 29) rfl ?_); refine eL M2 29 6 Tryd.underlying59 ?_)
      | ((with_reducible refine gate_store (t := 59) (p := 4) rfl ?_); refine eR M2 59 4 7 #[.slice (some ⟨gl, 0, none⟩) n n, .slice (some ⟨gs, 0, none⟩) n n, .slice (some ⟨gi, 0, none⟩) n n] ?_; clear M2; intro wz MZ)
      | fail)
    refine bodyPost_ret (results_ct rfl _ _ g4 59 _ (0, 0) _ rfl (MZ.out.at 7 rfl) Tryd.underlying59 rfl (by kernel_rfl)) rfl ?_
    simp only [List.map_cons, List.map_nil]
    rw [show Q.step n (L.map (·.2)) hd [s0.data.toList] = (190, L.map (·.2), hd) from rfl]
    exact ⟨L, S, I, rfl, MZ.out.forget 6, rfl, rfl, HR.out⟩
  | cons s1 r =>
    have z0 := HZ.out s0 (by simp)
    have z1 := HZ.out s1 (by simp)
    have HNU := Lib.hid (fun W => number_ref s1 z1 W)
    have HDG := Lib.hid (fun W => digits_ref s1 z1 4611686018427387904 (by omega) (by omega) W)
    have HLE2 := HLE.out
    have hl2 : decide ((r.length : Int) + 1 + 1 < 2) = false := decide_eq_false (by omega)
    have hl3 : ((1 : Int) < (r.length : Int) + 1 + 1) = True := eq_true (by omega)
    go_enter Tryd.func35, Tryd.ntmps35
    go_wp2_with (first
      | ((with_reducible refine gate_dst (N := 2) rfl ?_); refine eB M 2 #[.slice (some ⟨gl, 0, none⟩) n n, .slice (some ⟨gs, 0, none⟩) n n, .slice (some ⟨gi, 0, none⟩) n n] 59 ?_; clear M; intro g2 wa M1)
      | ((with_reducible refine gate_dst (N := 4) rfl ?_); refine eB M1 4 #[.slice none 0 0, .slice none 0 0, .slice none 0 0] 59 ?_; clear M1 x0; intro g4 wb M2; have x0 := word_atM M2.out 5 rfl (HC.out 0 s0 rfl); have x1 := word_atM M2.out 5 rfl (HC.out 1 s1 rfl))
      | fail)
    refine (HNU.out _).mono ?_
    rintro e W33 ⟨rfl, hb⟩
    have M3 := Aside0.mk (M2.out.call hb)
    clear M2 hb x0 x1
    cases hnb : Q.numB s1.data.toList with
    | false =>
      have HV := Lib.hid (step_head n (L.map (·.2)) hd s0.data.toList s1.data.toList (r.map (·.data.toList)) (fun h => by rw [hnb] at h; exact absurd h.2 (by simp)))
      go_wp2_with (first
        | ((with_reducible refine gate_dst (N := 35) rfl ?_); refine eL M3 35 6 Tryd.underlying59 ?_)
        | ((with_reducible refine gate_store (t := 59) (p := 4) rfl ?_); refine eR M3 59 4 7 #[.slice (some ⟨gl, 0, none⟩) n n, .slice (some ⟨gs, 0, none⟩) n n, .slice (some ⟨gi, 0, none⟩) n n] ?_; clear M3; intro wz MZ)
        | fail)
      refine bodyPost_ret (results_ct rfl _ _ g4 59 _ (0, 0) _ rfl (MZ.out.at 7 rfl) Tryd.underlying59 rfl (by kernel_rfl)) rfl ?_
      simp only [List.map_cons, List.map_nil]
      rw [HV.out]
      exact ⟨L, S, I, rfl, MZ.out.forget 6, rfl, rfl, HR.out⟩
    | true =>
      have HNB := Lib.hid hnb
      clear hnb
      have x1 := word_atM M3.out 5 rfl (HC.out 1 s1 rfl)
      have HHD : RowKit.Hid ((s0.data.toList = Q.stealW ∨ s0.data.toList = Q.inputW) ∧ Q.numB s1.data.toList = true) := Lib.hid ⟨(.inr A1.out), HNB.out⟩
      have HDI := Lib.hid (Q.dom_is n HN.out s1.data.toList HNB.out)
      go_wp2_with fail
      refine (HDG.out _).mono ?_
      by_cases hcan : Q.Canon s1.data.toList 4611686018427387904
      · rw [if_pos hcan, decide_eq_true hcan]
        obtain ⟨d, hd0⟩ : ∃ d : Nat, d = Num.dfold 0 s1.data.toList := ⟨_, rfl⟩
        have HD4 := Lib.hid (show d ≤ 4611686018427387904 by rw [hd0]; exact hcan.2.2.2)
        rw [← hd0]
        have HDD := Lib.hid hd0
        have HCAN := Lib.hid hcan
        clear hd0 hcan
        rintro e W40 ⟨rfl, hb⟩
        have M4 := Aside0.mk (M3.out.call hb)
        clear M3 hb x1
        have k0 := M4.out.cell 6 rfl 0
        have k1 := M4.out.cell 6 rfl 1
        have k2 := M4.out.cell 6 rfl 2
        have x0 := word_atM M4.out 5 rfl (HC.out 0 s0 rfl)
        have HN2 := HN.out
        have HD42 := HD4.out
        have hwn : IntKind.u64.wrap (n : Int) = (n : Int) := by rw [IntKind.wrap_u64]; omega
        by_cases hdn : d < n
        · have HDN := Lib.hid hdn
          have c1 : ((d : Int) ≥ (n : Int)) = False := eq_false (by omega)
          have c2 : decide ((d : Int) ≥ (n : Int)) = false := decide_eq_false (by omega)
          have c3 : decide (n ≤ d) = false := decide_eq_false (by omega)
          have c4 : ¬ n ≤ d := by omega
          have hd0 : (0 ≤ (d : Int)) = True := eq_true (by omega)
          have hd1 : ((d : Int) < (n : Int)) = True := eq_true (by omega)
          have xs : W40.cell? ⟨gi, d, none⟩ = some (.bool (I.getD d false)) := (M4.out.cell 3 rfl d).trans (bc_get I d (by rw [HR.out.li]; exact hdn))
          have HFLG := Lib.hid (HR.out.i d hdn)
          have HDM := Lib.hid (show Q.domV n s1.data.toList = some d by rw [HDI.out, if_pos ⟨HCAN.out, by rw [← HDD.out]; exact hdn⟩, HDD.out])
          clear hdn
          cases hh : I.getD d false with
          | true =>
            rw [hh] at xs
            have HV := Lib.hid (step_had n (L.map (·.2)) hd s0.data.toList s1.data.toList (r.map (·.data.toList)) HHD.out HDM.out (by rw [show decide (s0.data.toList = Q.stealW) = false from decide_eq_false A0.out, HFLG.out]; exact hh))
            clear hh HN2 HD42
            go_wp2_with (first
              | ((with_reducible refine gate_dst (N := 66) rfl ?_); refine eL M4 66 6 Tryd.underlying59 ?_)
              | ((with_reducible refine gate_store (t := 59) (p := 4) rfl ?_); refine eR M4 59 4 7 #[.slice (some ⟨gl, 0, none⟩) n n, .slice (some ⟨gs, 0, none⟩) n n, .slice (some ⟨gi, 0, none⟩) n n] ?_; clear M4; intro wz MZ)
              | fail)
            refine bodyPost_ret (results_ct rfl _ _ g4 59 _ (0, 0) _ rfl (MZ.out.at 7 rfl) Tryd.underlying59 rfl (by kernel_rfl)) rfl ?_
            simp only [List.map_cons, List.map_nil]
            rw [HV.out]
            exact ⟨L, S, I, rfl, MZ.out.forget 6, rfl, rfl, HR.out⟩
          | false =>
            rw [hh] at xs
            have HV : RowKit.Hid (Q.step n (L.map (·.2)) hd (s0.data.toList :: s1.data.toList :: r.map (·.data.toList)) = ((Q.items false (d * 2 + 1) (L.map (·.2)) (r.map (·.data.toList))).1, (Q.items false (d * 2 + 1) (L.map (·.2)) (r.map (·.data.toList))).2, hd.set (Q.slot d false) true)) := Lib.hid (by
              have h := step_items n (L.map (·.2)) hd s0.data.toList s1.data.toList (r.map (·.data.toList)) HHD.out HDM.out (by rw [show decide (s0.data.toList = Q.stealW) = false from decide_eq_false A0.out, HFLG.out]; exact hh)
              rw [show decide (s0.data.toList = Q.stealW) = false from decide_eq_false A0.out, show Q.slot d false = (d * 2 + 1) from slot_input d] at h
              rw [show Q.slot d false = (d * 2 + 1) from slot_input d]
              exact h)
            clear hh
            have HHR := Lib.hid (HR.out.put_i HDN.out)
            have HK := Lib.hid (show (d * 2 + 1) < L.length by have h1 := HL.out; have h2 := HDN.out; omega)
            have hjb : ((bc I)[d]?).isSome = true := by rw [bc_get I d (by rw [HR.out.li]; exact HDN.out)]; rfl
            go_wp2_with (first
              | ((with_reducible refine gate_store (t := 4) (p := 69) rfl ?_); refine eSn M4 4 69 3 d (.bool true) (bc (I.set d true)) ?_ rfl hjb rfl (bc_set I d true); clear M4 xs hjb x0 k0 k1 k2; intro w5 M5)
              | fail)
            go_loopw [9] (fun v9 wr => ∃ (j : Nat) (L' : List (Value × List Int)), 2 ≤ j ∧ j ≤ r.length + 2 ∧ v9 = .int .i64 j ∧ L'.length = L.length ∧ (∀ p ∈ L', p.2.length + (r.length + 2 - j) ≤ 137438953472) ∧ Q.items false (d * 2 + 1) (L'.map (·.2)) (((s0 :: s1 :: r).map (·.data.toList)).drop j) = Q.items false (d * 2 + 1) (L.map (·.2)) (r.map (·.data.toList)) ∧ Mem [36, 2] w0 wr [(gr, rd, 59), (gl, cellsL L', 32), (gs, bc S, 4), (gi, bc (I.set d true), 4), (gln, curs, 9), (gw, cur, 9), (g2, #[.slice (some ⟨gl, 0, none⟩) n n, .slice (some ⟨gs, 0, none⟩) n n, .slice (some ⟨gi, 0, none⟩) n n], 59), (g4, #[.slice none 0 0, .slice none 0 0, .slice none 0 0], 59)] (rowsOf true L')) (fun v9 _ => r.length + 2 - (intOf v9).toNat)
            case atStart => exact ⟨2, L, by omega, by omega, rfl, rfl, fun p hp => by have := HB.out p hp; simp only [List.length_cons] at this; omega, rfl, M5.out⟩
            rename World => w6
            obtain ⟨j, L', hj2, hj, rfl, hLL, hbg, hit, MW⟩ := hrel
            have M6 := Aside0.mk MW
            have HBG := Lib.hid hbg
            have HIT := Lib.hid hit
            have HLL := Lib.hid hLL
            have HJ2 := Lib.hid hj2
            clear MW M5 hbg hit hLL
            have x0 := word_atM M6.out 5 rfl (HC.out 0 s0 rfl)
            by_cases hjr : j < r.length + 2
            · obtain ⟨s, hs⟩ : ∃ s, (s0 :: s1 :: r)[j]? = some s := ⟨_, List.getElem?_eq_getElem (by simpa using hjr)⟩
              have xj := word_atM M6.out 5 rfl (HC.out j s hs)
              have zs := HZ.out s (List.mem_of_getElem? hs)
              have HDR := Lib.hid (show ((s0 :: s1 :: r).map (·.data.toList)).drop j = s.data.toList :: ((s0 :: s1 :: r).map (·.data.toList)).drop (j + 1) by
                rw [List.drop_eq_getElem_cons (by simpa using hjr)]
                congr 1
                rw [List.getElem_map]
                have := List.getElem?_eq_getElem (show j < (s0 :: s1 :: r).length by simpa using hjr)
                rw [hs] at this
                rw [← Option.some.inj this])
              have q2 : (j : Int) < (r.length : Int) + 1 + 1 := by omega
              have q3 : (0 : Int) ≤ (j : Int) := by omega
              have HJR := Lib.hid hjr
              have W1 := Lib.hid (show wrap64 ((j : Int) + 1) = ((j + 1 : Nat) : Int) by rw [Int.natCast_add]; exact IntWalk.wrap64_in _ (by have := HLE2; simp only [List.length_cons] at this; omega))
              obtain ⟨p, hp⟩ : ∃ p, L'[(d * 2 + 1)]? = some p := ⟨_, List.getElem?_eq_getElem (by rw [HLL.out]; exact HK.out)⟩
              have hpc := cellsL_get L' (d * 2 + 1) hp
              have HPL := Lib.hid (HBG.out p (List.mem_of_getElem? hp))
              have HPP := Lib.hid hp
              have hjj : ((cellsL L')[(d * 2 + 1)]?).isSome = true := by rw [hpc]; rfl
              have HPO := Lib.hid hpc
              have HJJ := Lib.hid hjj
              clear hp hs hjr hj hj2 hpc hjj
              have HSG := Lib.hid (fun W => signed_ref s zs W)
              go_wp2_with fail
              refine (HSG.out _).mono ?_
              rintro e W85 ⟨vv, rfl, hvv, hb⟩
              cases hsg : Q.sgn s.data.toList with
              | some u =>
                obtain rfl := hvv u hsg
                have HUV := Lib.hid (show Q.itemV false s.data.toList = some vv by rw [Q.item_i]; exact hsg)
                simp only [Option.isSome_some]
                clear hsg hvv
                have M7 := Aside0.mk (M6.out.call hb)
                clear M6 hb xj x0
                have HL64 := Lib.hid (show (p.2.length + 1) * 8 ≤ 140737488355328 by have := HPL.out; have := HJR.out; omega)
                have k0 := M7.out.cell 6 rfl 0
                go_wp2_with fail
                have hpc := HPO.out
                have hjj := HJJ.out
                refine dStart [14] [] M7 (fun w' MD => ?_)
                clear M7
                refine dP 0 117 (.pointer (some ⟨g2, 0, none⟩)) ?_
                simp only [Act.put, List.setIfInBounds_toArray, List.set_cons_zero, List.set_cons_succ]
                refine dC MD 1 118 6 0 (.slice (some ⟨gl, 0, none⟩) n n) ?_
                simp only [Act.put, List.setIfInBounds_toArray, List.set_cons_zero, List.set_cons_succ]
                refine dP 2 119 (.int .u64 (d : Int)) ?_
                simp only [Act.put, List.setIfInBounds_toArray, List.set_cons_zero, List.set_cons_succ]
                refine dP 3 120 (.pointer (some ⟨g2, 0, none⟩)) ?_
                simp only [Act.put, List.setIfInBounds_toArray, List.set_cons_zero, List.set_cons_succ]
                refine dC MD 4 121 6 0 (.slice (some ⟨gl, 0, none⟩) n n) ?_
                simp only [Act.put, List.setIfInBounds_toArray, List.set_cons_zero, List.set_cons_succ]
                refine dP 5 122 (.int .u64 (d : Int)) ?_
                simp only [Act.put, List.setIfInBounds_toArray, List.set_cons_zero, List.set_cons_succ]
                refine dP 6 123 (.pointer (some ⟨gl, d * 2, none⟩)) ?_
                simp only [Act.put, List.setIfInBounds_toArray, List.set_cons_zero, List.set_cons_succ]
                refine dP 7 124 (.pointer (some ⟨gl, d * 2 + 1, none⟩)) ?_
                simp only [Act.put, List.setIfInBounds_toArray, List.set_cons_zero, List.set_cons_succ]
                refine dC MD 8 125 1 (d * 2 + 1) p.1 (hv := hpc) ?_
                simp only [Act.put, List.setIfInBounds_toArray, List.set_cons_zero, List.set_cons_succ]
                refine dP 9 126 (.int .i64 vv) ?_
                simp only [Act.put, List.setIfInBounds_toArray, List.set_cons_zero, List.set_cons_succ]
                refine dR [10] ?_
                refine qBs MD 10 127 (.int .i64 vv) 2 ?_ AllReadyL.nil
                simp only [Act.put, List.setIfInBounds_toArray, List.set_cons_zero, List.set_cons_succ]
                have MF := Aside0.mk (show Mem [36, 2] w0 w' _ (⟨Kd.int .i64, 2, p.1, p.2⟩ :: (rowsOf true L').eraseIdx (d * 2 + 1)) from by have h := front_rowM MD.out (d * 2 + 1) HPP.out; rw [par_input d] at h; exact h)
                clear MD
                refine dR [11] ?_
                refine qAp MF 11 128 vv 8 HL64.out ?_ AllReadyL.nil
                clear MF
                intro v5 w6 MG
                simp only [Act.put, List.setIfInBounds_toArray, List.set_cons_zero, List.set_cons_succ]
                refine dP 12 129 (.pointer (some ⟨gl, d * 2, none⟩)) ?_
                simp only [Act.put, List.setIfInBounds_toArray, List.set_cons_zero, List.set_cons_succ]
                refine dP 13 130 (.pointer (some ⟨gl, d * 2 + 1, none⟩)) ?_
                simp only [Act.put, List.setIfInBounds_toArray, List.set_cons_zero, List.set_cons_succ]
                refine dR [14] ?_
                refine qC MG 14 30 130 1 (d * 2 + 1) v5 (cellsL (L'.set (d * 2 + 1) (v5, p.2 ++ [vv]))) ?_ rfl hjj (slice_oneM MG.out) (cellsL_set L' (d * 2 + 1) (v5, p.2 ++ [vv])) AllReadyL.nil
                clear MG
                intro w7 MH
                refine dDone ?_
                clear hpc hjj k0
                go_wp2
                go_roundw
                case rel => exact ⟨j + 1, L'.set (d * 2 + 1) (v5, p.2 ++ [vv]), by have := HJ2.out; omega, by have := HJR.out; omega, by rw [W1.out], by rw [List.length_set]; exact HLL.out, set_boundJ HPP.out (by simp) HJR.out HBG.out, next_items HPP.out (by rw [← HDR.out]; exact HIT.out) HUV.out, back_rowM (d * 2 + 1) (by rw [HLL.out]; exact HK.out) (v5, p.2 ++ [vv]) (by rw [par_input d]; exact MH.out)⟩
                case measure => exact meas HJR.out W1.out
              | none =>
                have HE := Lib.hid (show Q.items false (d * 2 + 1) (L.map (·.2)) (r.map (·.data.toList)) = (190, L'.map (·.2)) by rw [← HIT.out, HDR.out]; exact items_stop _ _ _ _ _ (by rw [Q.item_i]; exact hsg))
                simp only [Option.isSome_none]
                clear hsg hvv
                have M7 := Aside0.mk (M6.out.call hb)
                clear M6 hb xj x0
                go_wp2_with (first
                  | ((with_reducible refine gate_dst (N := 116) rfl ?_); refine eL M7 116 6 Tryd.underlying59 ?_)
                  | ((with_reducible refine gate_store (t := 59) (p := 4) rfl ?_); refine eR M7 59 4 7 #[.slice (some ⟨gl, 0, none⟩) n n, .slice (some ⟨gs, 0, none⟩) n n, .slice (some ⟨gi, 0, none⟩) n n] ?_; clear M7; intro wz MZ)
                  | fail)
                refine bodyPost_ret (results_ct rfl _ _ g4 59 _ (0, 0) _ rfl (MZ.out.at 7 rfl) Tryd.underlying59 rfl (by kernel_rfl)) rfl ?_
                simp only [List.map_cons, List.map_nil]
                rw [HV.out, HE.out]
                exact ⟨L', S, (I.set d true), rfl, MZ.out.forget 6, HLL.out, rfl, HHR.out⟩
            · have q2 : ¬ (j : Int) < (r.length : Int) + 1 + 1 := by omega
              have HE := Lib.hid (show Q.items false (d * 2 + 1) (L.map (·.2)) (r.map (·.data.toList)) = (0, L'.map (·.2)) by rw [← HIT.out, List.drop_eq_nil_of_le (by simp; omega)]; rfl)
              clear hj hj2 hjr
              go_wp2_with (first
                | ((with_reducible refine gate_dst (N := 131) rfl ?_); refine eL M6 131 6 Tryd.underlying59 ?_)
                | ((with_reducible refine gate_store (t := 59) (p := 4) rfl ?_); refine eR M6 59 4 7 #[.slice (some ⟨gl, 0, none⟩) n n, .slice (some ⟨gs, 0, none⟩) n n, .slice (some ⟨gi, 0, none⟩) n n] ?_; clear M6; intro wz MZ)
                | fail)
              refine bodyPost_ret (results_ct rfl _ _ g4 59 _ (0, 0) _ rfl (MZ.out.at 7 rfl) Tryd.underlying59 rfl (by kernel_rfl)) rfl ?_
              simp only [List.map_cons, List.map_nil]
              rw [HV.out, HE.out]
              exact ⟨L', S, (I.set d true), rfl, MZ.out.forget 6, HLL.out, rfl, HHR.out⟩
        · have c1 : ((d : Int) ≥ (n : Int)) = True := eq_true (by omega)
          have c2 : decide ((d : Int) ≥ (n : Int)) = true := decide_eq_true (by omega)
          have c3 : decide (n ≤ d) = true := decide_eq_true (by omega)
          have c4 : n ≤ d := by omega
          have HV := Lib.hid (step_dom n (L.map (·.2)) hd s0.data.toList s1.data.toList (r.map (·.data.toList)) HHD.out (by rw [HDI.out, if_neg (fun h => hdn (by rw [HDD.out]; exact h.2))]))
          clear hdn HN2 HD42
          go_wp2_with (first
            | ((with_reducible refine gate_dst (N := 66) rfl ?_); refine eL M4 66 6 Tryd.underlying59 ?_)
            | ((with_reducible refine gate_store (t := 59) (p := 4) rfl ?_); refine eR M4 59 4 7 #[.slice (some ⟨gl, 0, none⟩) n n, .slice (some ⟨gs, 0, none⟩) n n, .slice (some ⟨gi, 0, none⟩) n n] ?_; clear M4; intro wz MZ)
            | fail)
          refine bodyPost_ret (results_ct rfl _ _ g4 59 _ (0, 0) _ rfl (MZ.out.at 7 rfl) Tryd.underlying59 rfl (by kernel_rfl)) rfl ?_
          simp only [List.map_cons, List.map_nil]
          rw [HV.out]
          exact ⟨L, S, I, rfl, MZ.out.forget 6, rfl, rfl, HR.out⟩
      · rw [if_neg hcan, decide_eq_false hcan]
        have HV := Lib.hid (step_dom n (L.map (·.2)) hd s0.data.toList s1.data.toList (r.map (·.data.toList)) HHD.out (by rw [HDI.out, if_neg (fun h => hcan h.1)]))
        clear hcan
        rintro e W40 ⟨rfl, hb⟩
        have M4 := Aside0.mk (M3.out.call hb)
        clear M3 hb x1
        go_wp2_with (first
          | ((with_reducible refine gate_dst (N := 45) rfl ?_); refine eL M4 45 6 Tryd.underlying59 ?_)
          | ((with_reducible refine gate_store (t := 59) (p := 4) rfl ?_); refine eR M4 59 4 7 #[.slice (some ⟨gl, 0, none⟩) n n, .slice (some ⟨gs, 0, none⟩) n n, .slice (some ⟨gi, 0, none⟩) n n] ?_; clear M4; intro wz MZ)
          | fail)
        refine bodyPost_ret (results_ct rfl _ _ g4 59 _ (0, 0) _ rfl (MZ.out.at 7 rfl) Tryd.underlying59 rfl (by kernel_rfl)) rfl ?_
        simp only [List.map_cons, List.map_nil]
        rw [HV.out]
        exact ⟨L, S, I, rfl, MZ.out.forget 6, rfl, rfl, HR.out⟩
set_option maxHeartbeats 4000000 in
set_option maxRecDepth 100000 in
theorem line_calls {w0 W : World} {gr gl gs gi gln gw n c : Nat} {rd : Array Value} {L : List (Value × List Int)} {S I : List Bool} {curs cur : Array Value} {hd : List Bool} (s0 : ByteArray) (t : List ByteArray)
    (M0 : Mem [36, 2] w0 W [(gr, rd, 59), (gl, cellsL L, 32), (gs, bc S, 4), (gi, bc I, 4), (gln, curs, 9), (gw, cur, 9)] (rowsOf true L))
    (hL : L.length = 2 * n) (hn : n ≤ 16) (hcur : ∀ (i : Nat) p, (s0 :: t)[i]? = some p → cur[i]? = some (.string p)) (hsz : ∀ p ∈ s0 :: t, p.size ≤ 262144) (hlen : t.length ≤ 262144)
    (hbig : ∀ p ∈ L, p.2.length + t.length ≤ 137438953472) (hR : HadS n S I hd) :
    Calls Tryd.prog 35 #[.agg #[.slice (some ⟨gl, 0, none⟩) n n, .slice (some ⟨gs, 0, none⟩) n n, .slice (some ⟨gi, 0, none⟩) n n], .slice (some ⟨gw, 0, none⟩) (t.length + 1) c] W
      (LineR w0 gr gl gs gi gln gw n rd L curs cur (Q.step n (L.map (·.2)) hd ((s0 :: t).map (·.data.toList)))) := by
  by_cases a0 : s0.data.toList = Q.stealW
  · exact line_steal s0 t M0 hL hn hcur hsz hlen hbig hR a0
  by_cases a1 : s0.data.toList = Q.inputW
  · exact line_input s0 t M0 hL hn hcur hsz hlen hbig hR a0 a1
  have M : Aside0 (Mem [36, 2] w0 W [(gr, rd, 59), (gl, cellsL L, 32), (gs, bc S, 4), (gi, bc I, 4), (gln, curs, 9), (gw, cur, 9)] (rowsOf true L)) := Aside0.mk M0
  have x0 := word_atM M0 5 rfl (hcur 0 s0 rfl)
  have HL := Lib.hid hL
  have HN := Lib.hid hn
  have HC := Lib.hid hcur
  have HZ := Lib.hid hsz
  have HB := Lib.hid hbig
  have HR := Lib.hid hR
  have HLE := Lib.hid hlen
  clear hL hn hcur hsz hbig hR hlen M0
  have e0 : (s0.toList == [115, 116, 101, 97, 108]) = false := by rw [ByteArray.toList_eq]; exact beq_eq_false_iff_ne.mpr a0
  have e1 : (s0.toList = [115, 116, 101, 97, 108]) = False := eq_false (by rw [ByteArray.toList_eq]; exact a0)
  have e2 : (s0.toList == [105, 110, 112, 117, 116]) = false := by rw [ByteArray.toList_eq]; exact beq_eq_false_iff_ne.mpr a1
  have e3 : (s0.toList = [105, 110, 112, 117, 116]) = False := eq_false (by rw [ByteArray.toList_eq]; exact a1)
  have HV : RowKit.Hid (Q.step n (L.map (·.2)) hd (s0.data.toList :: t.map (·.data.toList)) = (190, L.map (·.2), hd)) := Lib.hid (by
    cases t with
    | nil => rfl
    | cons s1 r => exact step_head _ _ _ _ _ _ (fun h => by rcases h.1 with h | h; exact a0 h; exact a1 h))
  clear a0 a1
  go_enter Tryd.func35, Tryd.ntmps35
  go_wp2_with (first
    | ((with_reducible refine gate_dst (N := 2) rfl ?_); refine eB M 2 #[.slice (some ⟨gl, 0, none⟩) n n, .slice (some ⟨gs, 0, none⟩) n n, .slice (some ⟨gi, 0, none⟩) n n] 59 ?_; clear M; intro g2 wa M1)
    | ((with_reducible refine gate_dst (N := 4) rfl ?_); refine eB M1 4 #[.slice none 0 0, .slice none 0 0, .slice none 0 0] 59 ?_; clear M1 x0; intro g4 wb M2; have x0 := word_atM M2.out 5 rfl (HC.out 0 s0 rfl))
    | ((with_reducible refine gate_dst (N := 29) rfl ?_); refine eL M2 29 6 Tryd.underlying59 ?_)
    | ((with_reducible refine gate_store (t := 59) (p := 4) rfl ?_); refine eR M2 59 4 7 #[.slice (some ⟨gl, 0, none⟩) n n, .slice (some ⟨gs, 0, none⟩) n n, .slice (some ⟨gi, 0, none⟩) n n] ?_; clear M2; intro wz MZ)
    | fail)
  refine bodyPost_ret (results_ct rfl _ _ g4 59 _ (0, 0) _ rfl (MZ.out.at 7 rfl) Tryd.underlying59 rfl (by kernel_rfl)) rfl ?_
  simp only [List.map_cons, List.map_nil]
  rw [HV.out]
  exact ⟨L, S, I, rfl, MZ.out.forget 6, rfl, rfl, HR.out⟩
end Go.Proofs.YtonnlkpmfmknlaaDoor.Hof
end
