import Derived.Test.YtdbpglhdicmhhaaGreatDoorMPr7
import Derived.Handy
set_option maxHeartbeats 4000000
set_option maxRecDepth 100000
set_option linter.unusedVariables false
set_option linter.unusedSimpArgs false
section
namespace Go.Proofs.YtdbpglhdicmhhaaGreatDoor.qp
open Go.RowKit Go.Shelf Go.Proofs.YtdbpglhdicmhhaaGreatDoorW.aI Go.Proofs.YtdbpglhdicmhhaaGreatDoorW.aX Go.Proofs.YtdbpglhdicmhhaaGreatDoorW.aZ iM
open Go.Proofs.YtdbpglhdicmhhaaGreatDoor.GA
theorem XK (l d : List UInt8) (hd : Lib.trimPrefix l [114] = d) (h : (Lib.hasPrefix l [114] && Q.wQ d && !(decide (1 < d.length) && d.head? == some 48)) = false) : Q.xW l = (0,70):=by
 unfold Q.xW
 rw [hd,h]; rfl
theorem ado (l d : List UInt8) (hd : Lib.trimPrefix l [114] = d) (h : (Lib.hasPrefix l [114] && Q.wQ d && !(decide (1 < d.length) && d.head? == some 48)) = true) {v : Int} (hv : Lib.atoiAll d = .ok v) (h16 : v < 16) : Q.xW l = (v,0):=by
 unfold Q.xW
 rw [hd,h,if_pos rfl,hv]
 exact if_pos h16
theorem Z5 (l d : List UInt8) (hd : Lib.trimPrefix l [114] = d) (h : (Lib.hasPrefix l [114] && Q.wQ d && !(decide (1 < d.length) && d.head? == some 48)) = true) (hv : ∀ v,Lib.atoiAll d = .ok v → ¬ v < 16) : Q.xW l = (0,73):=by
 unfold Q.xW
 rw [hd,h,if_pos rfl]
 split
 ·rename_i v hv'
  exact if_neg (hv v hv')
 ·rfl
theorem gV (s : ByteArray) (hs : s.size ≤ 262144) (w : World) (S : Std w) :
  Calls Tryz.prog 118 #[.string s] w fun e w' => e = .returned (.tuple #[.int .i64 (Q.xW s.data.toList).1,.int .i64 (Q.xW s.data.toList).2]) ∧ Below w.heap.size w w':=by
 have HP:=Lib.hid (fun W => Tryz.strings_CutPrefix s ⟨#[114]⟩ W)
 have hlen:=KN s.data.toList [114]
 have HT:=Lib.hid (XK s.data.toList _ rfl)
 have HO:=Lib.hid (fun h v hv h16 => ado s.data.toList _ rfl h (v:=v) hv h16)
 have HG:=Lib.hid (Z5 s.data.toList _ rfl)
 rw [slen] at hlen
 revert HP HT HO HG hlen
 show RowKit.Hid (∀ W,Calls Tryz.prog 129 #[.string s,.string ⟨#[114]⟩] W fun e w' => e = .returned (.tuple #[.string (sB (Lib.trimPrefix s.data.toList [114])),.bool (Lib.hasPrefix s.data.toList [114])]) ∧ w' = W) → _
 generalize Lib.trimPrefix s.data.toList [114] = d
 generalize Lib.hasPrefix s.data.toList [114] = b
 generalize Q.xW s.data.toList = q
 intro HP hlen HT HO HG
 have hdl : d.length ≤ 262144:=by omega
 have hds : (sB d).size = d.length:=by show d.toArray.size = _; simp
 have htd : (sB d).data.toList = d:=rfl
 have HD:=Lib.hid (fun W => Em (sB d) (by omega) W)
 have HAO:=Lib.hid (fun (W : World) (h : Std W) v hv => Sz h (sB d) (by omega) v hv)
 have HAB:=Lib.hid (fun (W : World) (h : Std W) hv => VJ h (sB d) (by omega) hv)
 revert hds HD HAO HAB htd HP
 generalize sB d = t
 intro HP hds htd HD HAO HAB
 have SS:=Lib.hid S
 have HDS:=Lib.hid hds
 have HTD:=Lib.hid htd
 clear hlen S hds hdl htd
 go_enter Tryz.func118,Tryz.ntmps118
 go_wp2_with fail
 refine (HP.out _).mono ?_
 rintro e w1 ⟨rfl,rfl⟩
 cases b with
 | false =>
  obtain rfl:=HT.out rfl
  go_wp2
  go_ret2
  exact ⟨rfl,Below.refl _ _⟩
 | true =>
  go_wp2_with fail
  refine (HD.out _).mono ?_
  rintro e w2 ⟨rfl,hb⟩
  have S2:=Lib.hid (SS.out.below (gK hb))
  have HB:=ah.mk (gK hb)
  clear hb
  rw [HTD.out]
  cases hdg : Q.wQ d with
  | false =>
   obtain rfl:=HT.out (by rw [hdg]; rfl)
   clear hdg
   go_wp2
   go_ret2
   exact ⟨rfl,HB.out⟩
  | true =>
   have HDG:=Lib.hid hdg
   have hne : d ≠ []:=((Q.J9 d).1 hdg).1
   clear hdg
   obtain ⟨c,r,rfl⟩:=List.exists_cons_of_ne_nil hne
   clear hne
   have hz:=HDS.out
   rw [List.length_cons] at hz
   have hz0 : 0 < t.size:=by omega
   have hc0 : ((t[0]'hz0).toNat : Int) = (c.toNat : Int):=by
    have h1:=HTD.out
    have h2 : t.data.toList[0]'(by rw [h1]; simp) = c:=by simp [h1]
    rw [← h2]; rfl
   by_cases h48 : c = 48 ∧ r ≠ []
   ·obtain ⟨rfl,hr⟩:=h48
    have hr1 : 1 ≤ r.length:=by cases r with | nil => exact absurd rfl hr | cons a b => simp
    obtain rfl:=HT.out (by rw [HDG.out]; simp [hr1]; omega)
    have h1 : (1 : Int) < (t.size : Int):=by omega
    have h1b : decide ((t.size : Int) > 1) = true:=decide_eq_true h1
    have h1c : decide ((1 : Int) < (t.size : Int)) = true:=decide_eq_true h1
    have h1d : 1 < t.size:=by omega
    have hc1 : (((t[0]'hz0).toNat : Int) == 48) = true:=by rw [hc0]; rfl
    clear hr hr1 h1 hc0 hz
    go_wp2
    go_ret2
    exact ⟨rfl,HB.out⟩
   ·have hq : (true && Q.wQ (c :: r) && !(decide (1 < (c :: r).length) && (c :: r).head? == some 48)) = true:=by
     rw [HDG.out]
     by_cases hc : c = 48
     ·have : r = []:=Classical.byContradiction (fun h => h48 ⟨hc,h⟩)
      subst this; simp
     ·simp [hc]
    have HQ:=Lib.hid hq
    have hall : ((1 : Int) < (t.size : Int) ∧ (((t[0]'hz0).toNat : Int) == 48) = false) ∨ ¬ (1 : Int) < (t.size : Int):=by
     by_cases hr : r = []
     ·right; subst hr; simp at hz; omega
     ·left
      have hc : c ≠ 48:=fun e => h48 ⟨e,hr⟩
      refine ⟨?_,?_⟩
      ·have : 1 ≤ r.length:=by cases r with | nil => exact absurd rfl hr | cons a b => simp
       omega
      ·rw [hc0]
       exact beq_eq_false_iff_ne.mpr (fun e => hc (UInt8.toNat_inj.1 (by have e3 : (48 : UInt8).toNat = 48:=rfl; omega)))
    clear hq h48 hc0
    have key : ∀ (K : Prop),((1 : Int) < (t.size : Int) → (((t[0]'hz0).toNat : Int) == 48) = false → K) → (¬ (1 : Int) < (t.size : Int) → K) → K:=fun K k1 k2 => hall.elim (fun h => k1 h.1 h.2) k2
    clear hall
    refine key _ (fun h1 hc1 => ?_) (fun h1 => ?_)
    ·have h1b : decide ((t.size : Int) > 1) = true:=decide_eq_true h1
     have h1c : decide ((1 : Int) < (t.size : Int)) = true:=decide_eq_true h1
     have h1d : 1 < t.size:=by omega
     clear h1 hz key
     by_cases hok : ∃ v,Lib.atoiAll (c :: r) = .ok v
     ·obtain ⟨v,hv⟩:=hok
      have HA:=Lib.hid (fun (W : World) (h : Std W) => HAO.out W h v (by rw [HTD.out]; exact hv))
      by_cases QS : v < 16
      ·obtain rfl:=HO.out HQ.out v hv QS
       have d16 : decide (v ≥ 16) = false:=decide_eq_false (by omega)
       have d17 : decide (16 ≤ v) = false:=decide_eq_false (by omega)
       clear hv QS
       go_wp2_with fail
       refine (HA.out _ S2.out).mono ?_
       rintro e w3 ⟨rfl,hb⟩
       have HB3:=ah.mk (HB.out.trans (hb.mono HB.out.size))
       clear hb
       go_wp2
       go_ret2
       exact ⟨rfl,HB3.out⟩
      ·obtain rfl:=HG.out HQ.out (fun v' hv' => by rw [hv] at hv'; injection hv' with hv'; omega)
       have d16 : decide (v ≥ 16) = true:=decide_eq_true (by omega)
       have d17 : decide (16 ≤ v) = true:=decide_eq_true (by omega)
       clear hv QS
       go_wp2_with fail
       refine (HA.out _ S2.out).mono ?_
       rintro e w3 ⟨rfl,hb⟩
       have HB3:=ah.mk (HB.out.trans (hb.mono HB.out.size))
       clear hb
       go_wp2
       go_ret2
       exact ⟨rfl,HB3.out⟩
     ·obtain rfl:=HG.out HQ.out (fun v' hv' => absurd ⟨v',hv'⟩ hok)
      have HA:=Lib.hid (fun (W : World) (h : Std W) => HAB.out W h (by rw [HTD.out]; exact hok))
      clear hok
      go_wp2_with fail
      refine (HA.out _ S2.out).mono ?_
      rintro e w3 ⟨u,te,pe,rfl,hb⟩
      have HB3:=ah.mk (HB.out.trans (hb.mono HB.out.size))
      clear hb
      go_wp2
      go_ret2
      exact ⟨rfl,HB3.out⟩
    ·have h1b : decide ((t.size : Int) > 1) = false:=decide_eq_false h1
     have h1c : decide ((1 : Int) < (t.size : Int)) = false:=decide_eq_false h1
     have h1d : ¬ 1 < t.size:=by omega
     clear h1 hz key
     by_cases hok : ∃ v,Lib.atoiAll (c :: r) = .ok v
     ·obtain ⟨v,hv⟩:=hok
      have HA:=Lib.hid (fun (W : World) (h : Std W) => HAO.out W h v (by rw [HTD.out]; exact hv))
      by_cases QS : v < 16
      ·obtain rfl:=HO.out HQ.out v hv QS
       have d16 : decide (v ≥ 16) = false:=decide_eq_false (by omega)
       have d17 : decide (16 ≤ v) = false:=decide_eq_false (by omega)
       clear hv QS
       go_wp2_with fail
       refine (HA.out _ S2.out).mono ?_
       rintro e w3 ⟨rfl,hb⟩
       have HB3:=ah.mk (HB.out.trans (hb.mono HB.out.size))
       clear hb
       go_wp2
       go_ret2
       exact ⟨rfl,HB3.out⟩
      ·obtain rfl:=HG.out HQ.out (fun v' hv' => by rw [hv] at hv'; injection hv' with hv'; omega)
       have d16 : decide (v ≥ 16) = true:=decide_eq_true (by omega)
       have d17 : decide (16 ≤ v) = true:=decide_eq_true (by omega)
       clear hv QS
       go_wp2_with fail
       refine (HA.out _ S2.out).mono ?_
       rintro e w3 ⟨rfl,hb⟩
       have HB3:=ah.mk (HB.out.trans (hb.mono HB.out.size))
       clear hb
       go_wp2
       go_ret2
       exact ⟨rfl,HB3.out⟩
     ·obtain rfl:=HG.out HQ.out (fun v' hv' => absurd ⟨v',hv'⟩ hok)
      have HA:=Lib.hid (fun (W : World) (h : Std W) => HAB.out W h (by rw [HTD.out]; exact hok))
      clear hok
      go_wp2_with fail
      refine (HA.out _ S2.out).mono ?_
      rintro e w3 ⟨u,te,pe,rfl,hb⟩
      have HB3:=ah.mk (HB.out.trans (hb.mono HB.out.size))
      clear hb
      go_wp2
      go_ret2
      exact ⟨rfl,HB3.out⟩
theorem ac2 (l d : List UInt8) (hd : Lib.trimPrefix l [45] = d) (h : (Q.wQ d && decide (d.length ≤ 9)) = false) : Q.xP l = (0,false):=by
 unfold Q.xP
 rw [hd,h]; rfl
theorem ac3 (l d : List UInt8) (hd : Lib.trimPrefix l [45] = d) (h : (Q.wQ d && decide (d.length ≤ 9)) = true) : ∃ v,Lib.atoiAll l = .ok v ∧ Q.xP l = (v,true):=by
 have h2:=h
 rw [Bool.and_eq_true,← hd] at h2
 obtain ⟨v,hv⟩:=Q.aeM h2.1 (of_decide_eq_true h2.2)
 refine ⟨v,hv,?_⟩
 unfold Q.xP
 rw [hd,h,if_pos rfl,hv]
theorem jD (s : ByteArray) (hs : s.size ≤ 262144) (w : World) (S : Std w) :
  Calls Tryz.prog 98 #[.string s] w fun e w' => e = .returned (.tuple #[.int .i64 (Q.xP s.data.toList).1,.bool (Q.xP s.data.toList).2]) ∧ Below w.heap.size w w':=by
 have HP:=Lib.hid (fun W => Tryz.strings_TrimPrefix s ⟨#[45]⟩ W)
 have hlen:=KN s.data.toList [45]
 have HT:=Lib.hid (ac2 s.data.toList _ rfl)
 have HO:=Lib.hid (ac3 s.data.toList _ rfl)
 have HA:=Lib.hid (fun (W : World) (h : Std W) v hv => Sz h s hs v hv)
 rw [slen] at hlen
 revert HP HT HO hlen
 show RowKit.Hid (∀ W,Calls Tryz.prog 119 #[.string s,.string ⟨#[45]⟩] W fun e w' => e = .returned (.string (sB (Lib.trimPrefix s.data.toList [45]))) ∧ w' = W) → _
 generalize Lib.trimPrefix s.data.toList [45] = d
 generalize Q.xP s.data.toList = q
 intro HP hlen HT HO
 have hds : (sB d).size = d.length:=by show d.toArray.size = _; simp
 have htd : (sB d).data.toList = d:=rfl
 have HD:=Lib.hid (fun W => Em (sB d) (by omega) W)
 revert hds HD htd HP
 generalize sB d = t
 intro HP hds htd HD
 have SS:=Lib.hid S
 have HDS:=Lib.hid hds
 have HTD:=Lib.hid htd
 clear hlen S hds htd
 go_enter Tryz.func98,Tryz.ntmps98
 go_wp2_with fail
 refine (HP.out _).mono ?_
 rintro e w1 ⟨rfl,rfl⟩
 go_wp2_with fail
 refine (HD.out _).mono ?_
 rintro e w2 ⟨rfl,hb⟩
 have S2:=Lib.hid (SS.out.below (gK hb))
 have HB:=ah.mk (gK hb)
 clear hb
 rw [HTD.out]
 cases hdg : Q.wQ d with
 | false =>
  obtain rfl:=HT.out (by rw [hdg]; rfl)
  clear hdg
  go_wp2
  go_ret2
  exact ⟨rfl,HB.out⟩
 | true =>
  have HDG:=Lib.hid hdg
  clear hdg
  by_cases h9 : (t.size : Int) > 9
  ·obtain rfl:=HT.out (by rw [HDG.out]; have:=HDS.out; simp; omega)
   have h9b : decide ((t.size : Int) > 9) = true:=decide_eq_true h9
   have h9c : decide ((9 : Int) < (t.size : Int)) = true:=decide_eq_true h9
   have h9d : 9 < t.size:=by omega
   clear h9
   go_wp2
   go_ret2
   exact ⟨rfl,HB.out⟩
  ·obtain ⟨v,hv,rfl⟩:=HO.out (by rw [HDG.out]; have:=HDS.out; simp; omega)
   have HV:=Lib.hid hv
   have h9b : decide ((t.size : Int) > 9) = false:=decide_eq_false h9
   have h9c : decide ((9 : Int) < (t.size : Int)) = false:=decide_eq_false h9
   have h9d : ¬ 9 < t.size:=by omega
   clear h9 hv
   go_wp2_with fail
   refine (HA.out _ S2.out v HV.out).mono ?_
   rintro e w3 ⟨rfl,hb⟩
   have HB3:=ah.mk (HB.out.trans (hb.mono HB.out.size))
   clear hb
   go_wp2
   go_ret2
   exact ⟨rfl,HB3.out⟩
end Go.Proofs.YtdbpglhdicmhhaaGreatDoor.qp
end

section
namespace Go.Proofs.YtdbpglhdicmhhaaGreatDoor.qp
open Go.RowKit Go.Shelf Go.Proofs.YtdbpglhdicmhhaaGreatDoorW.aI Go.Proofs.YtdbpglhdicmhhaaGreatDoorW.aX Go.Proofs.YtdbpglhdicmhhaaGreatDoorW.aZ iM
open Go.Proofs.YtdbpglhdicmhhaaGreatDoor.GA
def Bf (w : World) (g o : Nat) (ws : List ByteArray) : Prop:=∀ (i : Nat) s,ws[i]? = some s → w.cell? ⟨g,o + i,none⟩ = some (.string s)
theorem Bf.below {w W : World} {g o : Nat} {ws : List ByteArray} (h : Bf w g o ws) (hb : Below w.heap.size w W) (hg : g < w.heap.size) : Bf W g o ws:=fun i s hi => (hb.cell hg).trans (h i s hi)
@[reducible] def bl (ws : List ByteArray) : List (List UInt8):=ws.map (·.data.toList)
@[reducible] def RG (w W : World) (v : Value) (xs : List Int) : Prop:=bf [3] w W [] [] [⟨Kd.int .i64,3,v,xs⟩]
theorem U6 (acc : List Int) (e : Int) (s : List UInt8) (r : List (List UInt8)) (h : (Q.xW s).2 = 70) : Q.fD acc e (s :: r) = ([],70):=by rw [Q.fD,if_pos h]
theorem U5 (acc : List Int) (e : Int) (s : List UInt8) (r : List (List UInt8)) (h : ¬ (Q.xW s).2 = 70) : Q.fD acc e (s :: r) = Q.fD (acc ++ [(Q.xW s).1]) (max e (Q.xW s).2) r:=by rw [Q.fD,if_neg h]
theorem XZ (w : World) : RG w w (.slice none 0 0) []:=by
 refine ⟨(Mem.start [3] w).row (Below.refl _ _) (Kd.Sl _ _ _ _ _) (by decide),fun i x h => by simp at h,fun i j x y h => by simp at h⟩
theorem drop_cons {α : Type} {l : List α} {i : Nat} {s : α} (h : l[i]? = some s) : l.drop i = s :: l.drop (i + 1):=by
 obtain ⟨hi,he⟩:=List.getElem?_eq_some_iff.1 h
 rw [List.drop_eq_getElem_cons hi,he]
theorem YH (ws : List ByteArray) (i : Nat) {s : ByteArray} (h : ws[i]? = some s) : (bl ws).drop i = s.data.toList :: (bl ws).drop (i + 1):=drop_cons (by rw [bl,List.getElem?_map,h]; rfl)
theorem Pm (x : Int) : intOf (.int .i64 x) = x:=rfl
theorem meas {i n : Nat} (h : i < n) (w : wrap64 ((i : Int) + 1) = ((i + 1 : Nat) : Int)) : n - (intOf (.int .i64 (wrap64 ((i : Int) + 1)))).toNat < n - (intOf (.int .i64 (i : Int))).toNat:=by
 rw [Pm,Pm,w,Int.toNat_natCast,Int.toNat_natCast]; omega
theorem BI (g o c : Nat) (ws : List ByteArray) (w : World) (S : Std w) (hg : g < w.heap.size) (hw : Bf w g o ws) (hz : ∀ s ∈ ws,s.size ≤ 262144) (hl : ws.length ≤ 262144) (hc : ws.length ≤ c) :
  Calls Tryz.prog 94 #[.slice (some ⟨g,o,none⟩) ws.length c] w fun e w' => ∃ v,e = .returned (.tuple #[v,.int .i64 (Q.fD [] 0 (bl ws)).2]) ∧ RG w w' v (Q.fD [] 0 (bl ws)).1:=by
 have SS:=Lib.hid S
 have HG:=Lib.hid hg
 have HW:=Lib.hid hw
 have HZ:=Lib.hid hz
 have HL:=Lib.hid hl
 have HC:=Lib.hid hc
 clear S hg hw hz hl hc
 go_enter Tryz.func94,Tryz.ntmps94
 go_wp2
 go_loopw [4,5,12] (fun v4 v5 v12 wr => ∃ (i : Nat) (acc : List Int) (er : Int),i ≤ ws.length ∧ v12 = .int .i64 i ∧ v5 = .int .i64 er ∧ acc.length = i ∧ Q.fD acc er ((bl ws).drop i) = Q.fD [] 0 (bl ws) ∧ RG w wr v4 acc) (fun _ _ v12 _ => ws.length - (intOf v12).toNat)
 case atStart => exact ⟨0,[],0,by omega,rfl,rfl,rfl,by rw [List.drop_zero],XZ w⟩
 obtain ⟨i,acc,er,hi,rfl,rfl,hacc,hrg,M⟩:=hrel
 have M1:=ah.mk M
 have Yu:=Lib.hid hrg
 have aee:=Lib.hid hacc
 clear M hrg hacc
 by_cases hir : i < ws.length
 ·obtain ⟨s,hs⟩ : ∃ s,ws[i]? = some s:=⟨_,List.getElem?_eq_getElem hir⟩
  have hcs:=(HW.out.below M1.out.mem.below HG.out) i s hs
  have HRC:=Lib.hid (gV s (HZ.out s (List.mem_of_getElem? hs)) wr (SS.out.below M1.out.mem.below))
  have HDR:=Lib.hid (YH ws i hs)
  have q2 : (i : Int) < (ws.length : Int):=by omega
  have hlc : ws.length ≤ c:=HC.out
  have JY:=Lib.hid hir
  have W1:=Lib.hid (show wrap64 ((i : Int) + 1) = ((i + 1 : Nat) : Int) by rw [Int.natCast_add]; exact IntWalk.wrap64_in _ (by have:=HL.out; omega))
  clear hs
  go_wp2_with fail
  refine HRC.out.mono ?_
  rintro e w3 ⟨rfl,hb⟩
  have M2:=ah.mk (M1.out.call hb)
  clear M1 hb hcs
  by_cases vS : (Q.xW s.data.toList).2 = 70
  ·have HV:=Lib.hid (show Q.fD [] 0 (bl ws) = ([],70) by rw [← Yu.out,HDR.out]; exact U6 _ _ _ _ vS)
   rw [vS]
   clear vS
   go_wp2
   go_ret2
   rw [HV.out]
   exact ⟨_,rfl,M2.out.fQ (fun h => Mem.ac9 h (Kd.Sl _ _ _ _ _))⟩
  ·have HV:=Lib.hid (show Q.fD (acc ++ [(Q.xW s.data.toList).1]) (max er (Q.xW s.data.toList).2) ((bl ws).drop (i + 1)) = Q.fD [] 0 (bl ws) by rw [← Yu.out,HDR.out]; exact (U5 _ _ _ _ vS).symm)
   have b70 : ((Q.xW s.data.toList).2 == 70) = false:=beq_eq_false_iff_ne.mpr vS
   have HL8:=Lib.hid (show (acc.length + 1) * 8 ≤ 140737488355328 by have h1:=aee.out; have h2:=HL.out; have h3:=JY.out; omega)
   clear vS
   revert HV b70
   generalize (Q.xW s.data.toList).1 = x1
   generalize (Q.xW s.data.toList).2 = x2
   intro HV b70
   go_wp2_with (first | ((with_reducible refine jB (b:=.append) (xs:=#[.tmp 27,.tmp 29]) rfl ?_); at_builtin; refine fA M2 30 x1 [.int .i64 x1] (.int .i64 0) 8 HL8.out ?_ rfl rfl (by decide); clear M2; intro v5 W5 M5))
   go_roundw
   case rel => exact ⟨i + 1,acc ++ [x1],max er x2,by have:=JY.out; omega,by rw [W1.out],by (first | rfl | (simp; done)),by rw [List.length_append,aee.out]; rfl,HV.out,M5.out⟩
   case measure => exact meas JY.out W1.out
 ·have q2 : ¬ (i : Int) < (ws.length : Int):=by omega
  have HE:=Lib.hid (show Q.fD [] 0 (bl ws) = (acc,er) by rw [← Yu.out,List.drop_eq_nil_of_le (by rw [bl,List.length_map]; omega)]; rfl)
  go_wp2
  go_ret2
  rw [HE.out]
  exact ⟨_,rfl,M1.out⟩
end Go.Proofs.YtdbpglhdicmhhaaGreatDoor.qp
end

section
namespace Go.Proofs.YtdbpglhdicmhhaaGreatDoor.qp
open Go.RowKit Go.Shelf Go.Proofs.YtdbpglhdicmhhaaGreatDoorW.aI Go.Proofs.YtdbpglhdicmhhaaGreatDoorW.aX Go.Proofs.YtdbpglhdicmhhaaGreatDoorW.aZ iM
open Go.Proofs.YtdbpglhdicmhhaaGreatDoor.GA
@[reducible] def dN (vc vf vt vi : Value) (gf gt gl : Nat) (vo : Value) (cases idle : Bool) (vu : Value) (wrong line now : Int) : Array Value :=
 #[vc,vf,vt,vi,.map (some gf),.map (some gt),.map (some gl),vo,.bool cases,.bool idle,vu,.int .i64 wrong,.int .i64 line,.int .i64 now]
def FN (wrong line e ln : Int) : Bool:=e != 0 && (wrong == 0 || decide (ln < line) || (ln == line && decide (BR e < BR wrong)))
def DN (wrong line e ln : Int) : Int × Int:=if FN wrong line e ln then (e,ln) else (wrong,line)
section
variable {es : List TypeId} {w0 W : World} {gr : Nat} {l : List (Nat × Array Value × TypeId)} {fx : List (Nat × Obj)} {rows : List Row} {vc vf vt vi vo vu : Value} {gf gt gl : Nat} {cases idle : Bool} {wrong line now : Int}
theorem bY (M : bf es w0 W ((gr,dN vc vf vt vi gf gt gl vo cases idle vu wrong line now,55) :: l) fx rows) (j : Nat) {u : Value} (h : (dN vc vf vt vi gf gt gl vo cases idle vu wrong line now)[j]? = some u) : W.cell? ⟨gr,j,none⟩ = some u:=(M.mem.cell 0 rfl j).trans h
theorem J5 (M0 : bf es w0 W ((gr,dN vc vf vt vi gf gt gl vo cases idle vu wrong line now,55) :: l) fx rows) (S : Std W) (e ln : Int) :
  Calls Tryz.prog 58 #[.pointer (some ⟨gr,0,none⟩),.int .i64 e,.int .i64 ln] W fun z w' => z = .returned (.tuple #[]) ∧
   bf es w0 w' ((gr,dN vc vf vt vi gf gt gl vo cases idle vu (DN wrong line e ln).1 (DN wrong line e ln).2 now,55) :: l) fx rows:=by
 have M:=ah.mk M0
 have SS:=Lib.hid S
 have c11:=bY M0 11 rfl
 have c12:=bY M0 12 rfl
 have HV:=Lib.hid (show DN wrong line e ln = if FN wrong line e ln then (e,ln) else (wrong,line) from rfl)
 obtain ⟨OA,Oc,hoc,h5,hC⟩:=S.ord
 have HX : ∀ (x : Int) (n : Nat),Calls Tryz.prog 93 #[.slice OA 5 Oc,.int .i64 x] (W.drewN n) fun z w'' => z = .returned (.int .i64 (BR x)) ∧ ∃ m,w'' = W.drewN m :=
  fun x n => (Pg (w:=W.drewN n) OA Oc x (Kd.uF hC (aj (Below.refl _ _) n)) h5).mono fun z w' ⟨h,m,hm⟩ => ⟨h,n + m,by rw [hm,World.drewN_drewN]⟩
 have JF:=Lib.hid (HX e)
 have Yx:=Lib.hid (HX wrong)
 clear HX
 clear M0 S hC
 have stay : ∀ (n : Nat),FN wrong line e ln = false → bf es w0 (W.drewN n) ((gr,dN vc vf vt vi gf gt gl vo cases idle vu (DN wrong line e ln).1 (DN wrong line e ln).2 now,55) :: l) fx rows:=fun n h => by
  rw [HV.out,h]; exact M.out.drewN n
 have ST:=Lib.hid stay
 clear stay
 by_cases he : e = 0
 ·subst he
  have HQ:=Lib.hid (show FN wrong line 0 ln = false by simp [FN])
  go_enter Tryz.func58,Tryz.ntmps58
  go_wp2_with fail
  go_quiet (fail)
  clear c11 c12 hoc
  go_wp2
  go_returns
  exact ⟨rfl,ST.out _ HQ.out⟩
 ·have he2 : (e != 0) = true:=bne_iff_ne.mpr he
  have HE:=Lib.hid he2
  by_cases hw : wrong = 0
  ·subst hw
   have HQ:=Lib.hid (show DN 0 line e ln = (e,ln) by rw [HV.out]; rw [if_pos]; simp [FN,he])
   clear he
   go_enter Tryz.func58,Tryz.ntmps58
   go_wp2_with fail
   go_quiet (fail)
   clear JF Yx c11 c12 hoc ST
   have M1:=ah.mk (M.out.drewN nq)
   clear M
   revert M1
   generalize W.drewN nq = W1
   intro M1
   go_wp2_with (first
    | ((with_reducible refine aU (t:=27) (p:=48) rfl ?_); refine fS M1 27 (.tmp 48) 0 11 (.int .i64 e) (dN vc vf vt vi gf gt gl vo cases idle vu e line now) ?_ rfl rfl rfl rfl; clear M1; intro W2 M2)
    | ((with_reducible refine aU (t:=3) (p:=50) rfl ?_); refine fS M2 3 (.tmp 50) 0 12 (.int .i64 ln) (dN vc vf vt vi gf gt gl vo cases idle vu e ln now) ?_ rfl rfl rfl rfl; clear M2; intro W3 M3))
   go_returns
   rw [HQ.out]
   exact ⟨rfl,M3.out⟩
  ·have hw2 : (wrong == 0) = false:=beq_eq_false_iff_ne.mpr hw
   by_cases hlt : ln < line
   ·have HQ:=Lib.hid (show DN wrong line e ln = (e,ln) by rw [HV.out]; rw [if_pos]; simp [FN,he,hlt])
    have ai2 : decide (ln < line) = true:=decide_eq_true hlt
    clear he hw hlt
    go_enter Tryz.func58,Tryz.ntmps58
    go_wp2_with fail
    go_quiet (fail)
    clear JF Yx c11 c12 hoc ST
    have M1:=ah.mk (M.out.drewN nq)
    clear M
    revert M1
    generalize W.drewN nq = W1
    intro M1
    go_wp2_with (first
     | ((with_reducible refine aU (t:=27) (p:=48) rfl ?_); refine fS M1 27 (.tmp 48) 0 11 (.int .i64 e) (dN vc vf vt vi gf gt gl vo cases idle vu e line now) ?_ rfl rfl rfl rfl; clear M1; intro W2 M2)
     | ((with_reducible refine aU (t:=3) (p:=50) rfl ?_); refine fS M2 3 (.tmp 50) 0 12 (.int .i64 ln) (dN vc vf vt vi gf gt gl vo cases idle vu e ln now) ?_ rfl rfl rfl rfl; clear M2; intro W3 M3))
    go_returns
    rw [HQ.out]
    exact ⟨rfl,M3.out⟩
   ·have ai2 : decide (ln < line) = false:=decide_eq_false hlt
    by_cases heq : ln = line
    ·subst heq
     by_cases hix : BR e < BR wrong
     ·have HQ:=Lib.hid (show DN wrong ln e ln = (e,ln) by rw [HV.out]; rw [if_pos]; simp [FN,he,hix])
      have WQ : decide (BR e < BR wrong) = true:=decide_eq_true hix
      clear he hw hlt hix
      revert WQ JF Yx
      generalize BR e = ie
      generalize BR wrong = iw
      intro JF Yx WQ
      go_enter Tryz.func58,Tryz.ntmps58
      go_wp2_with fail
      go_quiet (first | (with_reducible exact JF.out _) | (with_reducible exact Yx.out _))
      clear JF Yx c11 c12 hoc ST
      have M1:=ah.mk (M.out.drewN nq)
      clear M
      revert M1
      generalize W.drewN nq = W1
      intro M1
      go_wp2_with (first
       | ((with_reducible refine aU (t:=27) (p:=48) rfl ?_); refine fS M1 27 (.tmp 48) 0 11 (.int .i64 e) (dN vc vf vt vi gf gt gl vo cases idle vu e ln now) ?_ rfl rfl rfl rfl; clear M1; intro W2 M2)
       | ((with_reducible refine aU (t:=3) (p:=50) rfl ?_); refine fS M2 3 (.tmp 50) 0 12 (.int .i64 ln) (dN vc vf vt vi gf gt gl vo cases idle vu e ln now) ?_ rfl rfl rfl rfl; clear M2; intro W3 M3))
      go_returns
      rw [HQ.out]
      exact ⟨rfl,M3.out⟩
     ·have HQ:=Lib.hid (show FN wrong ln e ln = false by simp [FN,hw,hix])
      have WQ : decide (BR e < BR wrong) = false:=decide_eq_false hix
      clear he hw hlt hix
      revert WQ JF Yx
      generalize BR e = ie
      generalize BR wrong = iw
      intro JF Yx WQ
      go_enter Tryz.func58,Tryz.ntmps58
      go_wp2_with fail
      go_quiet (first | (with_reducible exact JF.out _) | (with_reducible exact Yx.out _))
      clear c11 c12 hoc
      go_wp2
      go_returns
      exact ⟨rfl,ST.out _ HQ.out⟩
    ·have amF : (ln == line) = false:=beq_eq_false_iff_ne.mpr heq
     have HQ:=Lib.hid (show FN wrong line e ln = false by simp [FN,hw,hlt,heq])
     clear he hw hlt heq
     go_enter Tryz.func58,Tryz.ntmps58
     go_wp2_with fail
     go_quiet (fail)
     clear c11 c12 hoc
     go_wp2
     go_returns
     exact ⟨rfl,ST.out _ HQ.out⟩
end
end Go.Proofs.YtdbpglhdicmhhaaGreatDoor.qp
end

section
namespace Go.Proofs.YtdbpglhdicmhhaaGreatDoor.qp
open Go.RowKit Go.Shelf Go.Proofs.YtdbpglhdicmhhaaGreatDoorW.aI Go.Proofs.YtdbpglhdicmhhaaGreatDoorW.aX Go.Proofs.YtdbpglhdicmhhaaGreatDoorW.aZ iM
open Go.Proofs.YtdbpglhdicmhhaaGreatDoor.GA
def vP (p : Int × Int) (opn : List Int) : Int × Int:=opn.foldl (fun p l => DN p.1 p.2 74 l) p
theorem Gs (p : Int × Int) (x : Int) (r : List Int) : vP p (x :: r) = vP (DN p.1 p.2 74 x) r:=rfl
section
variable {es : List TypeId} {w0 W : World} {gr : Nat} {l : List (Nat × Array Value × TypeId)} {fx : List (Nat × Obj)} {rows : List Row} {vc vf vt vi vo vu : Value} {gf gt gl : Nat} {cases idle : Bool} {wrong line now : Int}
@[reducible] def nilRow : Row:=⟨Kd.int .i64,3,.slice none 0 0,[]⟩
theorem La {opn : List Int} (M0 : bf es w0 W ((gr,dN vc vf vt vi gf gt gl vo cases idle vu wrong line now,55) :: l) fx rows) (S : Std w0) (q : Nat) (hq : rows[q]? = some ⟨Kd.int .i64,3,vo,opn⟩) (hlen : opn.length ≤ 262144) :
  Calls Tryz.prog 25 #[.pointer (some ⟨gr,0,none⟩)] W fun z w' => z = .returned (.tuple #[]) ∧
   bf es w0 w' ((gr,dN vc vf vt vi gf gt gl (.slice none 0 0) cases idle vu (vP (wrong,line) opn).1 (vP (wrong,line) opn).2 now,55) :: l) fx (rows.set q nilRow):=by
 have SS:=Lib.hid S
 have HL:=Lib.hid hlen
 have HQ:=Lib.hid hq
 rcases bf.slice M0 q hq with ⟨c,rfl,rfl⟩ | ⟨go,c,rfl,hc⟩
 ·have M:=ah.mk M0
  have c7:=bY M0 7 rfl
  clear M0 S hlen hq
  go_enter Tryz.func25,Tryz.ntmps25
  go_wp2
  go_loopw [9] (fun v9 wr => v9 = .int .i64 0 ∧ wr = W) (fun _ _ => 0)
  case atStart => exact ⟨rfl,rfl⟩
  obtain ⟨rfl,rfl⟩:=hrel
  go_wp2_with (first
   | ((with_reducible refine aU (t:=52) (p:=19) rfl ?_); refine fS M 52 (.tmp 19) 0 7 (.slice none 0 0) (dN vc vf vt vi gf gt gl (.slice none 0 0) cases idle vu wrong line now) ?_ rfl rfl rfl rfl; clear M; intro W2 M2))
  go_returns
  exact ⟨rfl,M2.out.XA q HQ.out⟩
 ·have M:=ah.mk M0
  have c7:=bY M0 7 rfl
  have HC:=Lib.hid hc
  clear M0 S hlen hq hc
  go_enter Tryz.func25,Tryz.ntmps25
  go_wp2
  go_loopw [9] (fun v9 wr => ∃ (i : Nat) (p : Int × Int),i ≤ opn.length ∧ v9 = .int .i64 i ∧ vP p (opn.drop i) = vP (wrong,line) opn ∧
   bf es w0 wr ((gr,dN vc vf vt vi gf gt gl (.slice (some ⟨go,0,none⟩) opn.length c) cases idle vu p.1 p.2 now,55) :: l) fx rows) (fun v9 _ => opn.length - (intOf v9).toNat)
  case atStart => exact ⟨0,(wrong,line),by omega,rfl,rfl,M.out⟩
  obtain ⟨i,p,hi,rfl,hcv,MM⟩:=hrel
  have M1:=ah.mk MM
  have HCV:=Lib.hid hcv
  clear MM hcv M c7
  by_cases hir : i < opn.length
  ·obtain ⟨x,hx⟩ : ∃ x,opn[i]? = some x:=⟨_,List.getElem?_eq_getElem hir⟩
   have hcx:=M1.out.zV q HQ.out hx hir
   have q2 : (i : Int) < (opn.length : Int):=by omega
   have hlc : opn.length ≤ c:=HC.out
   have JY:=Lib.hid hir
   have W1:=Lib.hid (show wrap64 ((i : Int) + 1) = ((i + 1 : Nat) : Int) by rw [Int.natCast_add]; exact IntWalk.wrap64_in _ (by have:=HL.out; omega))
   have HDR:=Lib.hid (drop_cons hx)
   have BJ:=Lib.hid (J5 M1.out (SS.out.below M1.out.mem.below) 74 x)
   clear hx M1
   go_wp2_with fail
   refine BJ.out.mono ?_
   rintro e w3 ⟨rfl,M2⟩
   have M3:=ah.mk M2
   clear M2 hcx
   go_wp2
   go_roundw
   case rel => exact ⟨i + 1,DN p.1 p.2 74 x,by have:=JY.out; omega,by rw [W1.out],by rw [← HCV.out,HDR.out,Gs],M3.out⟩
   case measure => exact meas JY.out W1.out
  ·have q2 : ¬ (i : Int) < (opn.length : Int):=by omega
   have HE:=Lib.hid (show vP (wrong,line) opn = p by rw [← HCV.out,List.drop_eq_nil_of_le (by omega)]; rfl)
   go_wp2_with (first
    | ((with_reducible refine aU (t:=52) (p:=19) rfl ?_); refine fS M1 52 (.tmp 19) 0 7 (.slice none 0 0) (dN vc vf vt vi gf gt gl (.slice none 0 0) cases idle vu p.1 p.2 now) ?_ rfl rfl rfl rfl; clear M1; intro W2 M2))
   go_returns
   rw [HE.out]
   exact ⟨rfl,M2.out.XA q HQ.out⟩
end
end Go.Proofs.YtdbpglhdicmhhaaGreatDoor.qp
end
