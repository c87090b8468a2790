import Derived.Test.YtdbpglhdicmhhaaGreatDoorMPr4
set_option maxHeartbeats 8000000
set_option maxRecDepth 100000
set_option linter.unusedVariables false
set_option linter.unusedSimpArgs false
section
namespace Go.Proofs.YtdbpglhdicmhhaaGreatDoor.GA
open Go.RowKit Go.Proofs.YtdbpglhdicmhhaaGreatDoorW.aI Go.Proofs.YtdbpglhdicmhhaaGreatDoorW.aX Go.Proofs.YtdbpglhdicmhhaaGreatDoorW.aZ
def aJ.f : Nat → Int → Option (ByteArray)
 | 0,_ => none
 | k + 1,a0 => if a0 < 0 then ((aJ.f k (wrap64 (-a0))).bind fun G7 => (if 1 + G7.size ≤ 9223372036854775807 then (some ((⟨#[45]⟩ : ByteArray) ++ G7)) else (none))) else (if a0 < 10 then (some (strOfNums (([(wrap64 (48 + a0)) % 256] : List Int)))) else ((aJ.f k (wrap64 (Int.tdiv a0 10))).bind fun CB => ((some (([(wrap64 (48 + (Int.tmod a0 10))) % 256] : List Int) : List Int)).bind fun CP => (if CB.size + (strOfNums CP).size ≤ 9223372036854775807 then (some (CB ++ (strOfNums CP))) else (none)))))
theorem aJ.BZ : ∀ k,(∀ y0,rH (aJ.f k y0) (aJ.f (k + 1) y0))
 | 0 => fun _ r h => by simp [aJ.f] at h
 | k + 1 => by
  have O8:=aJ.BZ k
  ·intro y0
   unfold aJ.f
   repeat' first
   | (with_reducible exact O8 _)
   | (with_reducible exact rH.refl _)
   | (with_reducible exact rH.none _)
   | (with_reducible refine rH.ite ?_ ?_)
   | (with_reducible refine rH.bind ?_ (fun _ => ?_))
   | exact O8 _
   | exact rH.none _
   | refine rH.ite ?_ ?_
   | refine rH.bind ?_ (fun _ => ?_)
theorem aJ.mono : ∀ a0 k,rH (aJ.f k a0) (aJ.f (k + 1) a0):=by
 intro a0 k
 have O8:=aJ.BZ k
 exact O8 a0
def aJ.T5 : Bool × List (List Nat × List Nat):=(true,[([],[]),([0],[0]),([1],[1]),([],[]),([3],[3]),([4],[4]),([5],[5]),([6],[6]),([7],[7]),([2,8],[2,8]),([9,2,0,1,2,3,4,5,6,7,8,9],[9])])
def aJ.B5 : List Nat:=[0,1,3,0,8,24,56,120,248,511,1023]
theorem aJ.ajp : wZ .any (opsOf Tryz.f44 5) = aJ.T5:=by kernel_rfl
theorem aJ.aeN : BD aJ.T5.2 aJ.B5 = true:=by kernel_rfl
theorem aJ.calls (k : Nat) : ∀ (a0 : Int) (r : ByteArray) (w : World) (h : aJ.f k a0 = some r),
  Calls Tryz.prog 44 #[.int .i64 a0] w fun e w' => e = .returned (.string r) ∧ Below w.heap.size w w':=by
 induction k using Nat.strongRecOn with
 | _ k ih =>
 intro a0 r w h
 cases k with
 | zero => exact absurd h (by simp [aJ.f])
 | succ k =>
 simp only [aJ.f] at h
 have HB:=ah.mk (Below.refl w.heap.size w)
 have H : (if a0 < 0 then ((aJ.f k (wrap64 (-a0))).bind fun G7 => (if 1 + G7.size ≤ 9223372036854775807 then (some ((⟨#[45]⟩ : ByteArray) ++ G7)) else (none))) else (if a0 < 10 then (some (strOfNums (([(wrap64 (48 + a0)) % 256] : List Int)))) else ((aJ.f k (wrap64 (Int.tdiv a0 10))).bind fun CB => ((some (([(wrap64 (48 + (Int.tmod a0 10))) % 256] : List Int) : List Int)).bind fun CP => (if CB.size + (strOfNums CP).size ≤ 9223372036854775807 then (some (CB ++ (strOfNums CP))) else (none)))))) = some r:=h
 clear h
 by_cases c2 : a0 < 0
 ·rw [if_pos c2] at H
  have DT : decide (a0 < 0) = true:=decide_eq_true c2
  clear c2
  replace H:=Option.bind_eq_some_iff.mp H
  obtain ⟨G7,A30,H⟩:=H
  replace H : (if 1 + G7.size ≤ 9223372036854775807 then (some ((⟨#[45]⟩ : ByteArray) ++ G7)) else (none)) = some r:=H
  have A3:=ah.mk A30
  clear A30
  by_cases c4 : 1 + G7.size ≤ 9223372036854775807
  ·rw [if_pos c4] at H
   have wU:=eq_true c4
   have BK : decide (1 + G7.size ≤ 9223372036854775807) = true:=decide_eq_true c4
   try have aml : (9223372036854775807 < 1 + G7.size) = False:=eq_false (Nat.not_lt.2 c4)
   obtain rfl:=Option.some.inj H
   go_enter Tryz.func44,Tryz.ntmps44
   go_wp2_with (first | ((with_reducible refine dn (f:=44) rfl ?_); refine goesL_ (some 7) rfl rfl Tryz.func44 (by kernel_rfl) rfl #[.int .i64 (wrap64 (-a0))] rfl (by (try simp only [List.map_toArray,List.map_cons,List.map_nil]); first | done | rfl | (simp only [List.length_drop,List.length_take]; rfl)) ?_; (with_reducible refine (ih k (by omega) (wrap64 (-a0)) G7 _ A3.out).mono ?_); rintro e w5 ⟨rfl,hb⟩; refine ⟨_,rfl,?_⟩; have n0_:=ah.mk (bP (by repeat (first | (with_reducible first | exact HB.out | apply ak | apply aj | apply ay) | exact HB.out)) hb); clear HB; have HB:=n0_; clear n0_; (try clear hb); (try clear hb2); (try clear hk); (try clear hi)))
   go_ret
   exact ⟨by first | rfl | (simp [bZ,cO] <;> rfl) | (simp [*,bZ,cO] <;> rfl),by repeat (first | (with_reducible first | exact HB.out | apply ak | apply aj | apply ay) | exact HB.out)⟩
  ·rw [if_neg c4] at H
   exact absurd H (by simp)
 ·rw [if_neg c2] at H
  have DT : decide (a0 < 0) = false:=decide_eq_false c2
  clear c2
  by_cases c6 : a0 < 10
  ·rw [if_pos c6] at H
   have GY : decide (a0 < 10) = true:=decide_eq_true c6
   clear c6
   obtain ⟨ajy,O4⟩ : ∃ y_ : List Int,y_ = (([(wrap64 (48 + a0)) % 256] : List Int)):=⟨_,rfl⟩
   replace H : (some (strOfNums ajy)) = some r:=by first | (rw [O4]; with_reducible exact H) | (have H2_:=(Option.bind_some _ _).symm.trans H; rw [O4]; with_reducible exact H2_) | (have H2_:=(Option.bind_some _ _).symm.trans H; with_reducible exact H2_) | with_reducible exact H | (rw [O4]; exact H) | exact H
   have aaF:=ah.mk O4
   clear O4
   obtain rfl:=Option.some.inj H
   go_enter Tryz.func44,Tryz.ntmps44
   go_wp2_with (first | ((with_reducible refine bI (N:=14) rfl ?_); refine Kd.VF (Kd.int .u8) _ 5 ?hg (N:=14) ?hd (xs:=([(wrap64 (48 + a0)) % 256] : List Int)) (inner:=[.int .u8 ((wrap64 (48 + a0)) % 256)]) (ok:=fun _ => True) (Df:=fun _ => True) ?hr ?hp (fun _ hk => hk) trivial (Below.refl _ _) (Nat.le_refl _) (by simp) ?_; (case hd => rfl); (case hg => rfl); (case hr => first | (go_simp; done) | (go_simp; rfl)); (case hp => exact (gJ.one (show Kd.M (Kd.int .u8) _ _ _ ((wrap64 (48 + a0)) % 256) [.int .u8 ((wrap64 (48 + a0)) % 256)] from rfl) (gJ.none _ _))); intro am9 w7 ho8 hb hg_ hnew_; clear hg_ hnew_; (first | rw [← aaF.out] at ho8 | (simp only [Int.reduceToNat] at ho8; rw [← aaF.out] at ho8)); have n0_:=ah.mk (Kd.Bd ho8 (bV (by repeat (first | (with_reducible first | exact HB.out | apply ak | apply aj | apply ay) | exact HB.out)))); have n1_:=ah.mk (bP (by repeat (first | (with_reducible first | exact HB.out | apply ak | apply aj | apply ay) | exact HB.out)) hb); clear HB; have aev:=n0_; have HB:=n1_; clear n0_ n1_; clear hb ho8; have amE:=xQ (P:=Tryz.prog) Tryz.underlying87 Tryz.underlying5 Tryz.underlying9 (Kd.EP aev.out)))
   go_ret
   exact ⟨by first | rfl | (simp [bZ,cO] <;> rfl) | (simp [*,bZ,cO] <;> rfl),by repeat (first | (with_reducible first | exact HB.out | apply ak | apply aj | apply ay) | exact HB.out)⟩
  ·rw [if_neg c6] at H
   have GY : decide (a0 < 10) = false:=decide_eq_false c6
   clear c6
   replace H:=Option.bind_eq_some_iff.mp H
   obtain ⟨CB,Og,H⟩:=H
   replace H : ((some (([(wrap64 (48 + (Int.tmod a0 10))) % 256] : List Int) : List Int)).bind fun CP => (if CB.size + (strOfNums CP).size ≤ 9223372036854775807 then (some (CB ++ (strOfNums CP))) else (none))) = some r:=H
   have Yi:=ah.mk Og
   clear Og
   obtain ⟨CP,O5⟩ : ∃ y_ : List Int,y_ = (([(wrap64 (48 + (Int.tmod a0 10))) % 256] : List Int)):=⟨_,rfl⟩
   replace H : (if CB.size + (strOfNums CP).size ≤ 9223372036854775807 then (some (CB ++ (strOfNums CP))) else (none)) = some r:=by first | (rw [O5]; with_reducible exact H) | (have H2_:=(Option.bind_some _ _).symm.trans H; rw [O5]; with_reducible exact H2_) | (have H2_:=(Option.bind_some _ _).symm.trans H; with_reducible exact H2_) | with_reducible exact H | (rw [O5]; exact H) | exact H
   have Si:=ah.mk O5
   clear O5
   by_cases c11 : CB.size + (strOfNums CP).size ≤ 9223372036854775807
   ·rw [if_pos c11] at H
    have Dw:=eq_true c11
    have Ei : decide (CB.size + (strOfNums CP).size ≤ 9223372036854775807) = true:=decide_eq_true c11
    try have akf : (9223372036854775807 < CB.size + (strOfNums CP).size) = False:=eq_false (Nat.not_lt.2 c11)
    obtain rfl:=Option.some.inj H
    go_enter Tryz.func44,Tryz.ntmps44
    try go_wp2
    have n0_:=ah.mk (ay HB.out)
    clear HB
    have HB:=n0_
    clear n0_
    refine start_ (n:=11) (S:=fun w' => True) (ds:=[]) #[false,false,false,false,false,false,false,false,false,false,false] (by kernel_rfl) rfl rfl trivial (fun hHeld => ?_); refine Gj aJ.ajp aJ.aeN (fun HT_ HW_ => ?_)
    generalize w.drew = w12 at HB hHeld ⊢
    refine pure_ (i:=0) (N:=some 16) (v:=?_) (a':=?_) #[true,false,false,false,false,false,false,false,false,false,false] rfl rfl (qo HT_.out (by kernel_rfl)) (fun _ _ _ h => h) (Or.inl ⟨by rfl,?_⟩) ?_ ?_
    rotate_left
    ·intro w'
     go_simp
     with_reducible rfl
    rotate_left
    ·simp only [Act.put,bF,bH,bG,fJ,fH]
     rfl
    refine pure_ (i:=1) (N:=some 17) (v:=?_) (a':=?_) #[true,true,false,false,false,false,false,false,false,false,false] rfl rfl (qo HT_.out (by kernel_rfl)) (fun _ _ _ h => h) (Or.inl ⟨by rfl,?_⟩) ?_ ?_
    rotate_left
    ·intro w'
     go_simp
     with_reducible rfl
    rotate_left
    ·simp only [Act.put,bF,bH,bG,fJ,fH]
     rfl
    refine pure_ (i:=3) (N:=some 19) (v:=?_) (a':=?_) #[true,true,false,true,false,false,false,false,false,false,false] rfl rfl (qo HT_.out (by kernel_rfl)) (fun _ _ _ h => h) (Or.inl ⟨by rfl,?_⟩) ?_ ?_
    rotate_left
    ·intro w'
     go_simp
     with_reducible rfl
    rotate_left
    ·simp only [Act.put,bF,bH,bG,fJ,fH]
     rfl
    refine pure_ (i:=4) (N:=some 20) (v:=?_) (a':=?_) #[true,true,false,true,true,false,false,false,false,false,false] rfl rfl (qo HT_.out (by kernel_rfl)) (fun _ _ _ h => h) (Or.inl ⟨by rfl,?_⟩) ?_ ?_
    rotate_left
    ·intro w'
     go_simp
     with_reducible rfl
    rotate_left
    ·simp only [Act.put,bF,bH,bG,fJ,fH]
     rfl
    refine pure_ (i:=5) (N:=some 21) (v:=?_) (a':=?_) #[true,true,false,true,true,true,false,false,false,false,false] rfl rfl (qo HT_.out (by kernel_rfl)) (fun _ _ _ h => h) (Or.inl ⟨by rfl,?_⟩) ?_ ?_
    rotate_left
    ·intro w'
     go_simp
     with_reducible rfl
    rotate_left
    ·simp only [Act.put,bF,bH,bG,fJ,fH]
     rfl
    refine pure_ (i:=6) (N:=some 22) (v:=?_) (a':=?_) #[true,true,false,true,true,true,true,false,false,false,false] rfl rfl (qo HT_.out (by kernel_rfl)) (fun _ _ _ h => h) (Or.inl ⟨by rfl,?_⟩) ?_ ?_
    rotate_left
    ·intro w'
     go_simp
     with_reducible rfl
    rotate_left
    ·simp only [Act.put,bF,bH,bG,fJ,fH]
     rfl
    refine join_ (σ:=Value) 2 #[true,true,true,true,true,true,true,true,true,false,false] (fun s_ => [(18,.string CB),(23,s_),(24,.string (strOfNums CP))]) (fun s_ w' => (Kd.R (Kd.int .u8) 5 w' w.heap.size (fun _ => True) s_ CP) ∧ (Below w.heap.size w w')) ?_ ?_
    rotate_left
    ·intro Wh
     refine two_ (i:=2) (j:=7) (Ni:=some 18) (Nj:=some 23) #[true,true,true,true,true,true,true,false,false,false,false] #[true,true,false,true,true,true,true,true,false,false,false] rfl rfl rfl rfl (X9 HT_.out (by kernel_rfl)) (by decide) (by decide) (fun K hK => ?_) (fun K hK => ?_)
     ·skip
      refine goes_ Tryz.func44 (by kernel_rfl) rfl #[.int .i64 (wrap64 (Int.tdiv a0 10))] (by rfl) rfl rfl (by (try simp only [List.map_toArray,List.map_cons,List.map_nil]); first | done | rfl | (simp only [List.length_drop,List.length_take]; rfl)) ?_
      with_reducible refine (ih k (by omega) (wrap64 (Int.tdiv a0 10)) CB _ Yi.out).mono ?_
      rintro e w13 ⟨rfl,hb⟩
      refine ⟨_,rfl,?_⟩
      have n0_:=ah.mk (bP (by repeat (first | (with_reducible first | exact HB.out | apply ak | apply aj | apply ay) | exact HB.out)) hb)
      clear HB
      have HB:=n0_
      clear n0_
      (try clear hb)
      (try clear hb2)
      (try clear hk)
      (try clear hi)
      refine hK.out _ _ trivial (fun hHeld => ?_)
      clear hK K
      refine norm_ (a':=?_) ?_ ?_
      rotate_left
      ·show Act.put _ (some 18) _ = _
       simp only [Act.put,bF,bH,bG,fJ,fH]
       rfl
      refine one_ (i:=7) (N:=some 23) #[true,true,true,true,true,true,true,true,false,false,false] rfl rfl (Cb HT_.out (by kernel_rfl)) (by decide) (fun K hK => ?_)
      refine Kd.Iz (Kd.int .u8) _ 5 ?hg (N:=23) ?hd (xs:=([(wrap64 (48 + (Int.tmod a0 10))) % 256] : List Int)) (inner:=[.int .u8 ((wrap64 (48 + (Int.tmod a0 10))) % 256)]) (ok:=fun _ => True) (Df:=fun _ => True) ?hr ?hp (fun _ hk => hk) trivial (Below.refl _ _) (Nat.le_refl _) (by simp) ?_; (case hd => rfl); (case hg => rfl); (case hr => first | (go_simp; done) | (go_simp; rfl)); (case hp => exact (gJ.one (show Kd.M (Kd.int .u8) _ _ _ ((wrap64 (48 + (Int.tmod a0 10))) % 256) [.int .u8 ((wrap64 (48 + (Int.tmod a0 10))) % 256)] from rfl) (gJ.none _ _)))
      intro Vb w14 WS hb hg_ hnew_
      clear hg_ hnew_
      (first | rw [← Si.out] at WS | (simp only [Int.reduceToNat] at WS; rw [← Si.out] at WS))
      have n0_:=ah.mk (Kd.Bd WS (bV (by repeat (first | (with_reducible first | exact HB.out | apply ak | apply aj | apply ay) | exact HB.out))))
      have n1_:=ah.mk (bP (by repeat (first | (with_reducible first | exact HB.out | apply ak | apply aj | apply ay) | exact HB.out)) hb)
      clear HB
      have zO:=n0_
      have HB:=n1_
      clear n0_ n1_
      clear hb WS
      refine hK.out _ _ trivial (fun hHeld => ?_)
      clear hK K
      refine norm_ (a':=?_) ?_ ?_
      rotate_left
      ·show Act.put _ (some 23) _ = _
       simp only [Act.put,bF,bH,bG,fJ,fH]
       rfl
      refine one_ (i:=8) (N:=some 24) #[true,true,true,true,true,true,true,true,true,false,false] rfl rfl (Cb HT_.out (by kernel_rfl)) (by decide) (fun K hK => ?_)
      have Wu:=xQ (P:=Tryz.prog) Tryz.underlying87 Tryz.underlying5 Tryz.underlying9 (Kd.EP zO.out)
      refine value_ (w1:=?_) (v:=?_) (by rfl) rfl ?_ ?_
      rotate_left 2
      ·go_simp
       constructor
       ·rfl
       ·rfl
      clear Wu
      refine hK.out _ _ trivial (fun hHeld => ?_)
      clear hK K
      refine norm_ (a':=?_) ?_ ?_
      rotate_left
      ·show Act.put _ (some 24) _ = _
       simp only [Act.put,bF,bH,bG,fJ,fH]
       rfl
      exact norm_ (by simp only [D5,Act.put,bF,bH,bG]) (Wh (Vb) _ ⟨(by (with_reducible repeat (first | apply Kd.uI | apply Kd.tC | apply Kd.wL)); exact zO.out),(by repeat (first | (with_reducible first | exact HB.out | apply ak | apply aj | apply ay) | exact HB.out))⟩)
     ·skip
      refine Kd.Iz (Kd.int .u8) _ 5 ?hg (N:=23) ?hd (xs:=([(wrap64 (48 + (Int.tmod a0 10))) % 256] : List Int)) (inner:=[.int .u8 ((wrap64 (48 + (Int.tmod a0 10))) % 256)]) (ok:=fun _ => True) (Df:=fun _ => True) ?hr ?hp (fun _ hk => hk) trivial (Below.refl _ _) (Nat.le_refl _) (by simp) ?_; (case hd => rfl); (case hg => rfl); (case hr => first | (go_simp; done) | (go_simp; rfl)); (case hp => exact (gJ.one (show Kd.M (Kd.int .u8) _ _ _ ((wrap64 (48 + (Int.tmod a0 10))) % 256) [.int .u8 ((wrap64 (48 + (Int.tmod a0 10))) % 256)] from rfl) (gJ.none _ _)))
      intro Vb w13 WR hb hg_ hnew_
      clear hg_ hnew_
      (first | rw [← Si.out] at WR | (simp only [Int.reduceToNat] at WR; rw [← Si.out] at WR))
      have n0_:=ah.mk (Kd.Bd WR (bV (by repeat (first | (with_reducible first | exact HB.out | apply ak | apply aj | apply ay) | exact HB.out))))
      have n1_:=ah.mk (bP (by repeat (first | (with_reducible first | exact HB.out | apply ak | apply aj | apply ay) | exact HB.out)) hb)
      clear HB
      have zO:=n0_
      have HB:=n1_
      clear n0_ n1_
      clear hb WR
      refine hK.out _ _ trivial (fun hHeld => ?_)
      clear hK K
      refine norm_ (a':=?_) ?_ ?_
      rotate_left
      ·show Act.put _ (some 23) _ = _
       simp only [Act.put,bF,bH,bG,fJ,fH]
       rfl
      refine two_ (i:=2) (j:=8) (Ni:=some 18) (Nj:=some 24) #[true,true,true,true,true,true,true,true,false,false,false] #[true,true,false,true,true,true,true,true,true,false,false] rfl rfl rfl rfl (X9 HT_.out (by kernel_rfl)) (by decide) (by decide) (fun K hK => ?_) (fun K hK => ?_)
      ·skip
       refine goes_ Tryz.func44 (by kernel_rfl) rfl #[.int .i64 (wrap64 (Int.tdiv a0 10))] (by rfl) rfl rfl (by (try simp only [List.map_toArray,List.map_cons,List.map_nil]); first | done | rfl | (simp only [List.length_drop,List.length_take]; rfl)) ?_
       with_reducible refine (ih k (by omega) (wrap64 (Int.tdiv a0 10)) CB _ Yi.out).mono ?_
       rintro e w15 ⟨rfl,hb⟩
       refine ⟨_,rfl,?_⟩
       have n0_:=ah.mk (Kd.zQ (by (with_reducible repeat (first | apply Kd.uI | apply Kd.tC | apply Kd.wL)); exact zO.out) hb)
       have n1_:=ah.mk (bP (by repeat (first | (with_reducible first | exact HB.out | apply ak | apply aj | apply ay) | exact HB.out)) hb)
       clear zO
       clear HB
       have zO:=n0_
       have HB:=n1_
       clear n0_ n1_
       (try clear hb)
       (try clear hb2)
       (try clear hk)
       (try clear hi)
       refine hK.out _ _ trivial (fun hHeld => ?_)
       clear hK K
       refine norm_ (a':=?_) ?_ ?_
       rotate_left
       ·show Act.put _ (some 18) _ = _
        simp only [Act.put,bF,bH,bG,fJ,fH]
        rfl
       refine one_ (i:=8) (N:=some 24) #[true,true,true,true,true,true,true,true,true,false,false] rfl rfl (Cb HT_.out (by kernel_rfl)) (by decide) (fun K hK => ?_)
       have Wu:=xQ (P:=Tryz.prog) Tryz.underlying87 Tryz.underlying5 Tryz.underlying9 (Kd.EP zO.out)
       refine value_ (w1:=?_) (v:=?_) (by rfl) rfl ?_ ?_
       rotate_left 2
       ·go_simp
        constructor
        ·rfl
        ·rfl
       clear Wu
       refine hK.out _ _ trivial (fun hHeld => ?_)
       clear hK K
       refine norm_ (a':=?_) ?_ ?_
       rotate_left
       ·show Act.put _ (some 24) _ = _
        simp only [Act.put,bF,bH,bG,fJ,fH]
        rfl
       exact norm_ (by simp only [D5,Act.put,bF,bH,bG]) (Wh (Vb) _ ⟨(by (with_reducible repeat (first | apply Kd.uI | apply Kd.tC | apply Kd.wL)); exact zO.out),(by repeat (first | (with_reducible first | exact HB.out | apply ak | apply aj | apply ay) | exact HB.out))⟩)
      ·skip
       have afc:=xQ (P:=Tryz.prog) Tryz.underlying87 Tryz.underlying5 Tryz.underlying9 (Kd.EP zO.out)
       refine value_ (w1:=?_) (v:=?_) (by rfl) rfl ?_ ?_
       rotate_left 2
       ·go_simp
        constructor
        ·rfl
        ·rfl
       clear afc
       refine hK.out _ _ trivial (fun hHeld => ?_)
       clear hK K
       refine norm_ (a':=?_) ?_ ?_
       rotate_left
       ·show Act.put _ (some 24) _ = _
        simp only [Act.put,bF,bH,bG,fJ,fH]
        rfl
       refine one_ (i:=2) (N:=some 18) #[true,true,true,true,true,true,true,true,true,false,false] rfl rfl (Cb HT_.out (by kernel_rfl)) (by decide) (fun K hK => ?_)
       refine goes_ Tryz.func44 (by kernel_rfl) rfl #[.int .i64 (wrap64 (Int.tdiv a0 10))] (by rfl) rfl rfl (by (try simp only [List.map_toArray,List.map_cons,List.map_nil]); first | done | rfl | (simp only [List.length_drop,List.length_take]; rfl)) ?_
       with_reducible refine (ih k (by omega) (wrap64 (Int.tdiv a0 10)) CB _ Yi.out).mono ?_
       rintro e w16 ⟨rfl,hb⟩
       refine ⟨_,rfl,?_⟩
       have n0_:=ah.mk (Kd.zQ (by (with_reducible repeat (first | apply Kd.uI | apply Kd.tC | apply Kd.wL)); exact zO.out) hb)
       have n1_:=ah.mk (bP (by repeat (first | (with_reducible first | exact HB.out | apply ak | apply aj | apply ay) | exact HB.out)) hb)
       clear zO
       clear HB
       have zO:=n0_
       have HB:=n1_
       clear n0_ n1_
       (try clear hb)
       (try clear hb2)
       (try clear hk)
       (try clear hi)
       refine hK.out _ _ trivial (fun hHeld => ?_)
       clear hK K
       refine norm_ (a':=?_) ?_ ?_
       rotate_left
       ·show Act.put _ (some 18) _ = _
        simp only [Act.put,bF,bH,bG,fJ,fH]
        rfl
       exact norm_ (by simp only [D5,Act.put,bF,bH,bG]) (Wh (Vb) _ ⟨(by (with_reducible repeat (first | apply Kd.uI | apply Kd.tC | apply Kd.wL)); exact zO.out),(by repeat (first | (with_reducible first | exact HB.out | apply ak | apply aj | apply ay) | exact HB.out))⟩)
    rintro Vb w17 ⟨h0_,h1_⟩
    have n0_ : ah (Kd.R (Kd.int .u8) 5 w17 w.heap.size (fun _ => True) Vb CP):=⟨h0_⟩
    have n1_ : ah (Below w.heap.size w w17):=⟨h1_⟩
    clear HB
    clear h0_ h1_
    have zO:=n0_
    have HB:=n1_
    clear n0_ n1_
    have hHeld:=trivial
    refine norm_ (a':=?_) ?_ ?_
    rotate_left
    ·simp only [D5,Act.put,bF,bH,bG]
     rfl
    refine pure_ (i:=9) (N:=some 25) (v:=?_) (a':=?_) #[true,true,true,true,true,true,true,true,true,true,false] rfl rfl (qo HT_.out (by kernel_rfl)) (fun _ _ _ h => h) (Or.inl ⟨by rfl,?_⟩) ?_ ?_
    rotate_left
    ·intro w'
     go_simp
     with_reducible rfl
    rotate_left
    ·simp only [Act.put,bF,bH,bG,fJ,fH]
     rfl
    refine pure_ (i:=10) (N:=some 2) (v:=?_) (a':=?_) #[true,true,true,true,true,true,true,true,true,true,true] rfl rfl (qo HT_.out (by kernel_rfl)) (fun _ _ _ h => h) (Or.inl ⟨by rfl,?_⟩) ?_ ?_
    rotate_left
    ·intro w'
     go_simp
     with_reducible rfl
    rotate_left
    ·simp only [Act.put,bF,bH,bG,fJ,fH]
     rfl
    refine done_ (Ll HT_.out (by kernel_rfl)) ?_
    try go_wp2
    go_ret
    exact ⟨by first | rfl | (simp [bZ,cO] <;> rfl) | (simp [*,bZ,cO] <;> rfl),by repeat (first | (with_reducible first | exact HB.out | apply ak | apply aj | apply ay) | exact HB.out)⟩
   ·rw [if_neg c11] at H
    exact absurd H (by simp)
end Go.Proofs.YtdbpglhdicmhhaaGreatDoor.GA
end

section
namespace Go.Proofs.YtdbpglhdicmhhaaGreatDoor.GA
open Go.RowKit Go.Proofs.YtdbpglhdicmhhaaGreatDoorW.aI Go.Proofs.YtdbpglhdicmhhaaGreatDoorW.aX Go.Proofs.YtdbpglhdicmhhaaGreatDoorW.aZ
mutual
def bQ.j0 : Nat → Int → Bool → Option (ByteArray)
 | 0,_,_ => none
 | k + 1,x3,x4 => if x4 = true then (some (⟨#[76]⟩ : ByteArray)) else (if x3 = 20 then (bQ.j1 k x3 (x3 == 20)) else (bQ.j1 k x3 (x3 == 22)))
def bQ.j1 : Nat → Int → Bool → Option (ByteArray)
 | 0,_,_ => none
 | k + 1,x3,x8 => if x8 = true then (some (⟨#[102]⟩ : ByteArray)) else (if x3 = 34 then (some (⟨#[116]⟩ : ByteArray)) else (some (⟨#[]⟩ : ByteArray)))
end
def bQ.f (k : Nat) (a0 : Int) : Option (ByteArray):=if a0 = 17 then (bQ.j0 k a0 (a0 == 17)) else (if a0 = 18 then (bQ.j0 k a0 (a0 == 18)) else (bQ.j0 k a0 (a0 == 19)))
theorem bQ.calls (k : Nat) (a0 : Int) (r : ByteArray) (w : World) (h : bQ.f k a0 = some r) :
  Calls Tryz.prog 45 #[.int .i64 a0] w fun e w' => e = .returned (.string r) ∧ aV w w':=by
 have H : (if a0 = 17 then (bQ.j0 k a0 (a0 == 17)) else (if a0 = 18 then (bQ.j0 k a0 (a0 == 18)) else (bQ.j0 k a0 (a0 == 19)))) = some r:=h
 clear h
 have HC2:=ah.mk H
 clear H
 go_enter Tryz.func45,Tryz.ntmps45
 go_upto_if 4 with (fail)
 go_cut [4] (fun v4 wc => ∃ (kq : Nat) (jE : Bool),v4 = .bool jE ∧ ah (bQ.j0 kq a0 jE = some r) ∧ ah (kq ≤ k) ∧ aV w wc)
 case first =>
  have H:=HC2.out
  clear HC2
  by_cases c3 : a0 = 17
  ·rw [if_pos c3] at H
   have rC : (a0 == 17) = true:=beq_iff_eq.mpr c3
   have Ag : (a0 != 17) = false:=bne_eq_false_iff_eq.mpr c3
   clear c3
   (first | rw [rC] | (simp only [fJ,fH]; rw [rC]) | skip)
   have H':=ah.mk H
   clear H
   go_wp2
   go_meet
   case rel => exact ⟨_,((a0 == 17)),(by first | rfl | (simp; done) | (simp [*]; done)),H',⟨by first | omega | exact Nat.le_refl _⟩,by repeat (first | exact aV.refl _ | apply aV.step)⟩
  ·rw [if_neg c3] at H
   have rC : (a0 == 17) = false:=beq_eq_false_iff_ne.mpr c3
   have Ag : (a0 != 17) = true:=bne_iff_ne.mpr c3
   (first | rw [rC] | (simp only [fJ,fH]; rw [rC]) | skip)
   by_cases c4 : a0 = 18
   ·rw [if_pos c4] at H
    have wU : (a0 == 18) = true:=beq_iff_eq.mpr c4
    have BK : (a0 != 18) = false:=bne_eq_false_iff_eq.mpr c4
    clear c4
    have H':=ah.mk H
    clear H
    go_wp2
    go_meet
    case rel => exact ⟨_,((a0 == 18)),(by first | rfl | (simp; done) | (simp [*]; done)),H',⟨by first | omega | exact Nat.le_refl _⟩,by repeat (first | exact aV.refl _ | apply aV.step)⟩
   ·rw [if_neg c4] at H
    have wU : (a0 == 18) = false:=beq_eq_false_iff_ne.mpr c4
    have BK : (a0 != 18) = true:=bne_iff_ne.mpr c4
    have H':=ah.mk H
    clear H
    go_wp2
    go_meet
    case rel => exact ⟨_,((a0 == 19)),(by first | rfl | (simp; done) | (simp [*]; done)),H',⟨by first | omega | exact Nat.le_refl _⟩,by repeat (first | exact aV.refl _ | apply aV.step)⟩
 case rest =>
  clear HC2
  try clear p2
  try clear c3
  try clear rC
  try clear Ag
  try clear c4
  try clear wU
  try clear BK
  obtain ⟨kq,jE,rfl,HA,Uj,⟨mc1,rfl⟩⟩:=hcut
  cases kq with
  | zero => exact absurd HA.out (by simp [bQ.j0])
  | succ TN =>
   have H:=HA.out
   clear HA
   simp only [bQ.j0] at H
   by_cases c5 : jE = true
   ·subst c5
    have H1 : (some (⟨#[76]⟩ : ByteArray)) = some r:=by rw [if_pos rfl] at H; exact H
    clear H
    have H:=H1
    clear H1
    obtain rfl:=Option.some.inj H
    go_wp2
    go_ret
    exact ⟨by first | rfl | (simp; done) | (simp [*]; done),by repeat (first | exact aV.refl _ | apply aV.step)⟩
   ·replace c5:=Bool.eq_false_iff.mpr c5
    subst c5
    have H1 : (if a0 = 20 then (bQ.j1 TN a0 (a0 == 20)) else (bQ.j1 TN a0 (a0 == 22))) = some r:=by rw [if_neg (show ¬ (false = true) by decide)] at H; exact H
    clear H
    have H:=H1
    clear H1
    have HC6:=ah.mk H
    clear H
    go_upto_if 8 with (fail)
    go_cut [8] (fun v8 wc => ∃ (kq : Nat) (N8 : Bool),v8 = .bool N8 ∧ ah (bQ.j1 kq a0 N8 = some r) ∧ ah (kq ≤ TN) ∧ aV w wc)
    case first =>
     have H:=HC6.out
     clear HC6
     by_cases c7 : a0 = 20
     ·rw [if_pos c7] at H
      have Bg : (a0 == 20) = true:=beq_iff_eq.mpr c7
      have IL : (a0 != 20) = false:=bne_eq_false_iff_eq.mpr c7
      clear c7
      (first | rw [Bg] | (simp only [fJ,fH]; rw [Bg]) | skip)
      have H':=ah.mk H
      clear H
      go_wp2
      go_meet
      case rel => exact ⟨_,((a0 == 20)),(by first | rfl | (simp; done) | (simp [*]; done)),H',⟨by have:=Uj.out; first | omega | exact Nat.le_refl _⟩,by repeat (first | exact aV.refl _ | apply aV.step)⟩
     ·rw [if_neg c7] at H
      have Bg : (a0 == 20) = false:=beq_eq_false_iff_ne.mpr c7
      have IL : (a0 != 20) = true:=bne_iff_ne.mpr c7
      (first | rw [Bg] | (simp only [fJ,fH]; rw [Bg]) | skip)
      have H':=ah.mk H
      clear H
      go_wp2
      go_meet
      case rel => exact ⟨_,((a0 == 22)),(by first | rfl | (simp; done) | (simp [*]; done)),H',⟨by have:=Uj.out; first | omega | exact Nat.le_refl _⟩,by repeat (first | exact aV.refl _ | apply aV.step)⟩
    case rest =>
     clear HC6
     try clear c1
     try clear p2
     try clear c3
     try clear rC
     try clear Ag
     try clear c4
     try clear wU
     try clear BK
     try clear c5
     try clear c7
     try clear Bg
     try clear IL
     try clear p2
     obtain ⟨kq,N8,rfl,HA,HJ5,⟨mc5,rfl⟩⟩:=hcut
     cases kq with
     | zero => exact absurd HA.out (by simp [bQ.j1])
     | succ kj5 =>
      have H:=HA.out
      clear HA
      simp only [bQ.j1] at H
      by_cases c8 : N8 = true
      ·subst c8
       have H1 : (some (⟨#[102]⟩ : ByteArray)) = some r:=by rw [if_pos rfl] at H; exact H
       clear H
       have H:=H1
       clear H1
       obtain rfl:=Option.some.inj H
       go_wp2
       go_ret
       exact ⟨by first | rfl | (simp; done) | (simp [*]; done),by repeat (first | exact aV.refl _ | apply aV.step)⟩
      ·replace c8:=Bool.eq_false_iff.mpr c8
       subst c8
       have H1 : (if a0 = 34 then (some (⟨#[116]⟩ : ByteArray)) else (some (⟨#[]⟩ : ByteArray))) = some r:=by rw [if_neg (show ¬ (false = true) by decide)] at H; exact H
       clear H
       have H:=H1
       clear H1
       by_cases c9 : a0 = 34
       ·rw [if_pos c9] at H
        have GZ : (a0 == 34) = true:=beq_iff_eq.mpr c9
        have abJ : (a0 != 34) = false:=bne_eq_false_iff_eq.mpr c9
        clear c9
        obtain rfl:=Option.some.inj H
        go_wp2
        go_ret
        exact ⟨by first | rfl | (simp; done) | (simp [*]; done),by repeat (first | exact aV.refl _ | apply aV.step)⟩
       ·rw [if_neg c9] at H
        have GZ : (a0 == 34) = false:=beq_eq_false_iff_ne.mpr c9
        have abJ : (a0 != 34) = true:=bne_iff_ne.mpr c9
        obtain rfl:=Option.some.inj H
        go_wp2
        go_ret
        exact ⟨by first | rfl | (simp; done) | (simp [*]; done),by repeat (first | exact aV.refl _ | apply aV.step)⟩
end Go.Proofs.YtdbpglhdicmhhaaGreatDoor.GA
end
